/-
What is proved: parts of the law FnExactStartExploration: what the functions that it reaches compute, and the plain law.
Conditions: those of each theorem.
-/
import Derived.Test.YthmjimboajmhmaaCFnExactStartExploration4
namespace Go.Proofs.Ythmjimboajmhmaa.Pr
open Go.RowKit Go.Proofs.YthmjimboajmhmaaW.PrintWords Go.Proofs.YthmjimboajmhmaaW.PrintLast Go.Proofs.YthmjimboajmhmaaW.PrintMore
attribute [local go_sem] max2_int min2_int max_two min_two max_three min_three max_four min_four   -- for this text's walks alone
set_option linter.unusedVariables false
set_option linter.unusedSimpArgs false
def impl_StartExploration.f (k : Nat) (l0 : List (S37)) (a1 : Int) : Option ((List (S37)) × List Bool × List Bool × Int × Int × Bool) := (impl_Leg_87.f l0).bind fun t961 => (if 8 ≤ 281474976710656 then ((some (List.replicate 8 false : List Bool)).bind fun y964 => ((some (List.replicate 8 false : List Bool)).bind fun y967 => (if 0 < (y964.length : Int) then ((some (y964.set (0 : Int).toNat true : List Bool)).bind fun y971 => ((impl_IsExploration.f k t961 y971 y967 0 a1).bind fun t972 => (if t972 = true then (some (t961, y971, y967, 0, a1, true)) else (some (([] : List (S37)), ([] : List Bool), ([] : List Bool), 0, 0, false))))) else (none)))) else (none))
theorem impl_StartExploration.mono : ∀ a0 a1 k, LeO (impl_StartExploration.f k a0 a1) (impl_StartExploration.f (k + 1) a0 a1) := by
 intro a0 a1 k
 unfold impl_StartExploration.f
 repeat' first
   | (with_reducible exact impl_IsExploration.mono _ _ _ _ _ _)
   | (with_reducible exact LeO.refl _)
   | (with_reducible exact LeO.none _)
   | (with_reducible refine LeO.ite ?_ ?_)
   | (with_reducible refine LeO.bind ?_ (fun _ => ?_))
   | exact impl_IsExploration.mono _ _ _ _ _ _
   | exact LeO.none _
   | refine LeO.ite ?_ ?_
   | refine LeO.bind ?_ (fun _ => ?_)
def impl_StartExploration.T1 : Bool × List (List Nat × List Nat) := (true, [([], []), ([0], [0]), ([], []), ([], []), ([], []), ([1, 2, 3, 4], [1, 2, 3, 4]), ([], []), ([6, 5, 1, 0, 1, 2, 3, 4, 5, 6], [5, 6])])
def impl_StartExploration.B1 : List Nat := [0, 1, 0, 0, 0, 31, 0, 127]
theorem impl_StartExploration.tab1 : rtab .any (opsOf Try.f32 1) = impl_StartExploration.T1 := by kernel_rfl
theorem impl_StartExploration.bits1 : waitsOk impl_StartExploration.T1.2 impl_StartExploration.B1 = true := by kernel_rfl
set_option maxHeartbeats 8000000 in
set_option maxRecDepth 100000 in
theorem impl_StartExploration.calls (k : Nat) (A0 : Option Addr) (c0 : Nat) (l0 : List (S37)) (a1 : Int) (r1 : List (S37)) (r2 : List Bool) (r3 : List Bool) (r4 : Int) (r5 : Int) (r6 : Bool) (w : World) (hr0 : Kd.C k37 w A0 l0.length l0) (hc0 : l0.length ≤ c0) (h : impl_StartExploration.f k l0 a1 = some (r1, r2, r3, r4, r5, r6)) :
  Calls Try.prog 32 #[.slice A0 l0.length c0, .int .i64 a1] w fun e w' => ∃ v0_ v1_ v2_ : Value, e = .returned (.tuple #[.agg #[v0_, v1_, v2_, .int .i64 r4, .int .i64 r5], .bool r6]) ∧ Kd.R k37 37 w' w.heap.size (fun _ => True) v0_ r1 ∧ Kd.R Kd.bool 4 w' w.heap.size (fun k_ => some k_ ≠ (v2_ : Value).ownBlock) v1_ r2 ∧ Kd.R Kd.bool 4 w' w.heap.size (fun k_ => some k_ ≠ (v1_ : Value).ownBlock) v2_ r3 ∧ Below w.heap.size w w' := by
 have hu30 := Try.underlying30
 have HR0 := Aside0.mk hr0
 have HC0 := Aside0.mk hc0
 clear hr0 hc0
 have HB := Aside0.mk (Below.refl w.heap.size w)
 have H : ((impl_Leg_87.f l0).bind fun t961 => (if 8 ≤ 281474976710656 then ((some (List.replicate 8 false : List Bool)).bind fun y964 => ((some (List.replicate 8 false : List Bool)).bind fun y967 => (if 0 < (y964.length : Int) then ((some (y964.set (0 : Int).toNat true : List Bool)).bind fun y971 => ((impl_IsExploration.f k t961 y971 y967 0 a1).bind fun t972 => (if t972 = true then (some (t961, y971, y967, 0, a1, true)) else (some (([] : List (S37)), ([] : List Bool), ([] : List Bool), 0, 0, false))))) else (none)))) else (none))) = some (r1, r2, r3, r4, r5, r6) := h
 clear h
 replace H := Option.bind_eq_some_iff.mp H
 obtain ⟨t961, A30, H⟩ := H
 replace H : (if 8 ≤ 281474976710656 then ((some (List.replicate 8 false : List Bool)).bind fun y964 => ((some (List.replicate 8 false : List Bool)).bind fun y967 => (if 0 < (y964.length : Int) then ((some (y964.set (0 : Int).toNat true : List Bool)).bind fun y971 => ((impl_IsExploration.f k t961 y971 y967 0 a1).bind fun t972 => (if t972 = true then (some (t961, y971, y967, 0, a1, true)) else (some (([] : List (S37)), ([] : List Bool), ([] : List Bool), 0, 0, false))))) else (none)))) else (none)) = some (r1, r2, r3, r4, r5, r6) := H
 have A3 := Aside0.mk A30
 clear A30
 by_cases c4 : 8 ≤ 281474976710656
 ·
  rw [if_pos c4] at H
  have c4b0 := eq_true c4
  have c4b1 : decide (8 ≤ 281474976710656) = true := decide_eq_true c4
  clear c4
  obtain ⟨y964, hy964⟩ : ∃ y_ : List Bool, y_ = (List.replicate 8 false) := ⟨_, rfl⟩
  replace H : ((some (List.replicate 8 false : List Bool)).bind fun y967 => (if 0 < (y964.length : Int) then ((some (y964.set (0 : Int).toNat true : List Bool)).bind fun y971 => ((impl_IsExploration.f k t961 y971 y967 0 a1).bind fun t972 => (if t972 = true then (some (t961, y971, y967, 0, a1, true)) else (some (([] : List (S37)), ([] : List Bool), ([] : List Bool), 0, 0, false))))) else (none))) = some (r1, r2, r3, r4, r5, r6) := by first | (rw [hy964]; with_reducible exact H) | (have H2_ := (Option.bind_some _ _).symm.trans H; rw [hy964]; with_reducible exact H2_) | (have H2_ := (Option.bind_some _ _).symm.trans H; with_reducible exact H2_) | with_reducible exact H | (rw [hy964]; exact H) | exact H
  have Ny964 := Aside0.mk hy964
  clear hy964
  obtain ⟨y967, hy967⟩ : ∃ y_ : List Bool, y_ = (List.replicate 8 false) := ⟨_, rfl⟩
  replace H : (if 0 < (y964.length : Int) then ((some (y964.set (0 : Int).toNat true : List Bool)).bind fun y971 => ((impl_IsExploration.f k t961 y971 y967 0 a1).bind fun t972 => (if t972 = true then (some (t961, y971, y967, 0, a1, true)) else (some (([] : List (S37)), ([] : List Bool), ([] : List Bool), 0, 0, false))))) else (none)) = some (r1, r2, r3, r4, r5, r6) := by first | (rw [hy967]; with_reducible exact H) | (have H2_ := (Option.bind_some _ _).symm.trans H; rw [hy967]; with_reducible exact H2_) | (have H2_ := (Option.bind_some _ _).symm.trans H; with_reducible exact H2_) | with_reducible exact H | (rw [hy967]; exact H) | exact H
  have Ny967 := Aside0.mk hy967
  clear hy967
  by_cases c5 : 0 < (y964.length : Int)
  ·
   rw [if_pos c5] at H
   have c5b0 : decide (0 < (y964.length : Int)) = true := decide_eq_true c5
   have c5b1 : decide (0 < y964.length) = true := decide_eq_true (by omega)
   clear c5
   obtain ⟨y971, hy971⟩ : ∃ y_ : List Bool, y_ = (y964.set (0 : Int).toNat true) := ⟨_, rfl⟩
   replace H : ((impl_IsExploration.f k t961 y971 y967 0 a1).bind fun t972 => (if t972 = true then (some (t961, y971, y967, 0, a1, true)) else (some (([] : List (S37)), ([] : List Bool), ([] : List Bool), 0, 0, false)))) = some (r1, r2, r3, r4, r5, r6) := by first | (rw [hy971]; with_reducible exact H) | (have H2_ := (Option.bind_some _ _).symm.trans H; rw [hy971]; with_reducible exact H2_) | (have H2_ := (Option.bind_some _ _).symm.trans H; with_reducible exact H2_) | with_reducible exact H | (rw [hy971]; exact H) | exact H
   have Ny971 := Aside0.mk hy971
   clear hy971
   replace H := Option.bind_eq_some_iff.mp H
   obtain ⟨t972, A70, H⟩ := H
   replace H : (if t972 = true then (some (t961, y971, y967, 0, a1, true)) else (some (([] : List (S37)), ([] : List Bool), ([] : List Bool), 0, 0, false))) = some (r1, r2, r3, r4, r5, r6) := H
   have A7 := Aside0.mk A70
   clear A70
   by_cases c8 : t972 = true
   ·
    subst c8
    have H1 : (some (t961, y971, y967, 0, a1, true)) = some (r1, r2, r3, r4, r5, r6) := by rw [if_pos rfl] at H; exact H
    clear H
    have H := H1
    clear H1
    simp only [Option.some.injEq, Prod.mk.injEq] at H
    obtain ⟨rfl, rfl, rfl, rfl, rfl, rfl⟩ := H
    go_enter Try.func32, Try.ntmps32
    try go_wp2_with (first | ((with_reducible refine gate_dst (N := 4) rfl ?_); refine box_event ?hg (N := 4) ?hd (cs := #[.slice none 0 0, .slice none 0 0, .slice none 0 0, .int .i64 0, .int .i64 0]) (t := 30) ?hr ?_; (case hd => rfl); (case hg => rfl); (case hr => first | (go_simp; done) | (go_simp; rfl)); intro gb960 hg w9 hbox hb; have BK960 := Aside0.mk (hbox); have GW960 := Aside0.mk ((bz_ hg (lb0_ HB.out))); have GE960 := Aside0.mk ((bz_ hg (lb0_ HB.out))); replace HB := Aside0.mk (below_step (lb0_ HB.out) hb); clear hb hbox hg))
    replace BK960 := Aside0.mk (blk_drew BK960.out)
    replace HB := Aside0.mk (below_drew1 HB.out)
    refine start_ (n := 8) (S := fun w' => True) (ds := []) #[false, false, false, false, false, false, false, false] (by kernel_rfl) rfl rfl trivial (fun hHeld => ?_); refine with_tabW impl_StartExploration.tab1 impl_StartExploration.bits1 (fun HT_ HW_ => ?_)
    generalize w9.drew = w10 at BK960 HB hHeld ⊢
    refine pz_ HT_ 0 (some 7) #[true, false, false, false, false, false, false, false] ?_
    refine pz_ HT_ 4 (some 11) #[true, false, false, false, true, false, false, false] ?_
    refine join_ (σ := Value × Value × Value × Nat) 1 #[true, true, true, true, true, true, true, false] (fun s_ => [(8, s_.1), (9, s_.2.1), (10, s_.2.2.1), (6, .pointer (some ⟨s_.2.2.2, 0, none⟩)), (12, .agg #[s_.1, s_.2.1, s_.2.2.1, .int .i64 0, .int .i64 a1])]) (fun s_ w' => (Kd.R k37 37 w' w.heap.size (fun _ => True) s_.1 t961) ∧ (Kd.R Kd.bool 4 w' w.heap.size (fun k_ => some k_ ≠ (s_.2.2.1 : Value).ownBlock) s_.2.1 y964) ∧ (Kd.R Kd.bool 4 w' w.heap.size (fun k_ => some k_ ≠ (s_.2.1 : Value).ownBlock) s_.2.2.1 y967) ∧ (w'.heap[gb960]? = some (.cells #[.slice none 0 0, .slice none 0 0, .slice none 0 0, .int .i64 0, .int .i64 0] 30 (0, 0))) ∧ (w'.heap[s_.2.2.2]? = some (.cells #[.slice none 0 0, .slice none 0 0, .slice none 0 0, .int .i64 0, .int .i64 0] 30 (0, 0))) ∧ (w.heap.size ≤ s_.2.2.2) ∧ (w.heap.size ≤ s_.2.2.2) ∧ (gb960 ≠ s_.2.2.2) ∧ (s_.2.2.2 ≠ gb960) ∧ (Below w.heap.size w w')) ?_ ?_
    rotate_left
    ·
     intro hJ1_2_3_6
     refine join_ (σ := Value × Value × Value) 2 #[true, true, true, true, true, true, false, false] (fun s_ => [(8, s_.1), (9, s_.2.1), (10, s_.2.2), (12, .agg #[s_.1, s_.2.1, s_.2.2, .int .i64 0, .int .i64 a1])]) (fun s_ w' => (Kd.R k37 37 w' w.heap.size (fun _ => True) s_.1 t961) ∧ (Kd.R Kd.bool 4 w' w.heap.size (fun k_ => some k_ ≠ (s_.2.2 : Value).ownBlock) s_.2.1 y964) ∧ (Kd.R Kd.bool 4 w' w.heap.size (fun k_ => some k_ ≠ (s_.2.1 : Value).ownBlock) s_.2.2 y967) ∧ (w'.heap[gb960]? = some (.cells #[.slice none 0 0, .slice none 0 0, .slice none 0 0, .int .i64 0, .int .i64 0] 30 (0, 0))) ∧ (Below w.heap.size w w')) ?_ ?_
     rotate_left
     ·
      intro hJ1_2_3
      refine join_ (σ := Value × Value × Nat) 3 #[true, true, true, false, true, false, true, false] (fun s_ => [(8, s_.1), (9, s_.2.1), (6, .pointer (some ⟨s_.2.2, 0, none⟩))]) (fun s_ w' => (Kd.R k37 37 w' w.heap.size (fun _ => True) s_.1 t961) ∧ (Kd.R Kd.bool 4 w' w.heap.size (fun _ => True) s_.2.1 y964) ∧ (w'.heap[gb960]? = some (.cells #[.slice none 0 0, .slice none 0 0, .slice none 0 0, .int .i64 0, .int .i64 0] 30 (0, 0))) ∧ (w'.heap[s_.2.2]? = some (.cells #[.slice none 0 0, .slice none 0 0, .slice none 0 0, .int .i64 0, .int .i64 0] 30 (0, 0))) ∧ (w.heap.size ≤ s_.2.2) ∧ (w.heap.size ≤ s_.2.2) ∧ (gb960 ≠ s_.2.2) ∧ (s_.2.2 ≠ gb960) ∧ (Below w.heap.size w w')) ?_ ?_
      rotate_left
      ·
       intro hJ1_2_6
       refine join_ (σ := Value × Value × Nat) 3 #[true, true, false, true, true, false, true, false] (fun s_ => [(8, s_.1), (10, s_.2.1), (6, .pointer (some ⟨s_.2.2, 0, none⟩))]) (fun s_ w' => (Kd.R k37 37 w' w.heap.size (fun _ => True) s_.1 t961) ∧ (Kd.R Kd.bool 4 w' w.heap.size (fun _ => True) s_.2.1 y967) ∧ (w'.heap[gb960]? = some (.cells #[.slice none 0 0, .slice none 0 0, .slice none 0 0, .int .i64 0, .int .i64 0] 30 (0, 0))) ∧ (w'.heap[s_.2.2]? = some (.cells #[.slice none 0 0, .slice none 0 0, .slice none 0 0, .int .i64 0, .int .i64 0] 30 (0, 0))) ∧ (w.heap.size ≤ s_.2.2) ∧ (w.heap.size ≤ s_.2.2) ∧ (gb960 ≠ s_.2.2) ∧ (s_.2.2 ≠ gb960) ∧ (Below w.heap.size w w')) ?_ ?_
       rotate_left
       ·
        intro hJ1_3_6; refine join_ (σ := Value × Value × Nat) 3 #[true, false, true, true, true, false, true, false] (fun s_ => [(9, s_.1), (10, s_.2.1), (6, .pointer (some ⟨s_.2.2, 0, none⟩))]) (fun s_ w' => (Kd.R Kd.bool 4 w' w.heap.size (fun k_ => some k_ ≠ (s_.2.1 : Value).ownBlock) s_.1 y964) ∧ (Kd.R Kd.bool 4 w' w.heap.size (fun k_ => some k_ ≠ (s_.1 : Value).ownBlock) s_.2.1 y967) ∧ (w'.heap[gb960]? = some (.cells #[.slice none 0 0, .slice none 0 0, .slice none 0 0, .int .i64 0, .int .i64 0] 30 (0, 0))) ∧ (w'.heap[s_.2.2]? = some (.cells #[.slice none 0 0, .slice none 0 0, .slice none 0 0, .int .i64 0, .int .i64 0] 30 (0, 0))) ∧ (w.heap.size ≤ s_.2.2) ∧ (w.heap.size ≤ s_.2.2) ∧ (gb960 ≠ s_.2.2) ∧ (s_.2.2 ≠ gb960) ∧ (Below w.heap.size w w')) ?_ ?_; rotate_left
        ·
         intro hJ2_3_6; refine join_ (σ := Value × Value) 4 #[true, true, true, false, true, false, false, false] (fun s_ => [(8, s_.1), (9, s_.2)]) (fun s_ w' => (Kd.R k37 37 w' w.heap.size (fun _ => True) s_.1 t961) ∧ (Kd.R Kd.bool 4 w' w.heap.size (fun _ => True) s_.2 y964) ∧ (w'.heap[gb960]? = some (.cells #[.slice none 0 0, .slice none 0 0, .slice none 0 0, .int .i64 0, .int .i64 0] 30 (0, 0))) ∧ (Below w.heap.size w w')) ?_ ?_; rotate_left
         ·
          intro hJ1_2; refine join_ (σ := Value × Value) 4 #[true, true, false, true, true, false, false, false] (fun s_ => [(8, s_.1), (10, s_.2)]) (fun s_ w' => (Kd.R k37 37 w' w.heap.size (fun _ => True) s_.1 t961) ∧ (Kd.R Kd.bool 4 w' w.heap.size (fun _ => True) s_.2 y967) ∧ (w'.heap[gb960]? = some (.cells #[.slice none 0 0, .slice none 0 0, .slice none 0 0, .int .i64 0, .int .i64 0] 30 (0, 0))) ∧ (Below w.heap.size w w')) ?_ ?_; rotate_left
          ·
           intro hJ1_3; refine join_ (σ := Value × Nat) 4 #[true, true, false, false, true, false, true, false] (fun s_ => [(8, s_.1), (6, .pointer (some ⟨s_.2, 0, none⟩))]) (fun s_ w' => (Kd.R k37 37 w' w.heap.size (fun _ => True) s_.1 t961) ∧ (w'.heap[gb960]? = some (.cells #[.slice none 0 0, .slice none 0 0, .slice none 0 0, .int .i64 0, .int .i64 0] 30 (0, 0))) ∧ (w'.heap[s_.2]? = some (.cells #[.slice none 0 0, .slice none 0 0, .slice none 0 0, .int .i64 0, .int .i64 0] 30 (0, 0))) ∧ (w.heap.size ≤ s_.2) ∧ (w.heap.size ≤ s_.2) ∧ (gb960 ≠ s_.2) ∧ (s_.2 ≠ gb960) ∧ (Below w.heap.size w w')) ?_ ?_; rotate_left
           ·
            intro hJ1_6; refine join_ (σ := Value × Value) 4 #[true, false, true, true, true, false, false, false] (fun s_ => [(9, s_.1), (10, s_.2)]) (fun s_ w' => (Kd.R Kd.bool 4 w' w.heap.size (fun k_ => some k_ ≠ (s_.2 : Value).ownBlock) s_.1 y964) ∧ (Kd.R Kd.bool 4 w' w.heap.size (fun k_ => some k_ ≠ (s_.1 : Value).ownBlock) s_.2 y967) ∧ (w'.heap[gb960]? = some (.cells #[.slice none 0 0, .slice none 0 0, .slice none 0 0, .int .i64 0, .int .i64 0] 30 (0, 0))) ∧ (Below w.heap.size w w')) ?_ ?_; rotate_left
            ·
             intro hJ2_3; refine join_ (σ := Value × Nat) 4 #[true, false, true, false, true, false, true, false] (fun s_ => [(9, s_.1), (6, .pointer (some ⟨s_.2, 0, none⟩))]) (fun s_ w' => (Kd.R Kd.bool 4 w' w.heap.size (fun _ => True) s_.1 y964) ∧ (w'.heap[gb960]? = some (.cells #[.slice none 0 0, .slice none 0 0, .slice none 0 0, .int .i64 0, .int .i64 0] 30 (0, 0))) ∧ (w'.heap[s_.2]? = some (.cells #[.slice none 0 0, .slice none 0 0, .slice none 0 0, .int .i64 0, .int .i64 0] 30 (0, 0))) ∧ (w.heap.size ≤ s_.2) ∧ (w.heap.size ≤ s_.2) ∧ (gb960 ≠ s_.2) ∧ (s_.2 ≠ gb960) ∧ (Below w.heap.size w w')) ?_ ?_; rotate_left
             ·
              intro hJ2_6; refine join_ (σ := Value × Nat) 4 #[true, false, false, true, true, false, true, false] (fun s_ => [(10, s_.1), (6, .pointer (some ⟨s_.2, 0, none⟩))]) (fun s_ w' => (Kd.R Kd.bool 4 w' w.heap.size (fun _ => True) s_.1 y967) ∧ (w'.heap[gb960]? = some (.cells #[.slice none 0 0, .slice none 0 0, .slice none 0 0, .int .i64 0, .int .i64 0] 30 (0, 0))) ∧ (w'.heap[s_.2]? = some (.cells #[.slice none 0 0, .slice none 0 0, .slice none 0 0, .int .i64 0, .int .i64 0] 30 (0, 0))) ∧ (w.heap.size ≤ s_.2) ∧ (w.heap.size ≤ s_.2) ∧ (gb960 ≠ s_.2) ∧ (s_.2 ≠ gb960) ∧ (Below w.heap.size w w')) ?_ ?_; rotate_left
              ·
               intro hJ3_6; refine join_ (σ := Value) 5 #[true, true, false, false, true, false, false, false] (fun s_ => [(8, s_)]) (fun s_ w' => (Kd.R k37 37 w' w.heap.size (fun _ => True) s_ t961) ∧ (w'.heap[gb960]? = some (.cells #[.slice none 0 0, .slice none 0 0, .slice none 0 0, .int .i64 0, .int .i64 0] 30 (0, 0))) ∧ (Below w.heap.size w w')) ?_ ?_; rotate_left
               ·
                intro hJ1; refine join_ (σ := Value) 5 #[true, false, true, false, true, false, false, false] (fun s_ => [(9, s_)]) (fun s_ w' => (Kd.R Kd.bool 4 w' w.heap.size (fun _ => True) s_ y964) ∧ (w'.heap[gb960]? = some (.cells #[.slice none 0 0, .slice none 0 0, .slice none 0 0, .int .i64 0, .int .i64 0] 30 (0, 0))) ∧ (Below w.heap.size w w')) ?_ ?_; rotate_left
                ·
                 intro hJ2; refine join_ (σ := Value) 5 #[true, false, false, true, true, false, false, false] (fun s_ => [(10, s_)]) (fun s_ w' => (Kd.R Kd.bool 4 w' w.heap.size (fun _ => True) s_ y967) ∧ (w'.heap[gb960]? = some (.cells #[.slice none 0 0, .slice none 0 0, .slice none 0 0, .int .i64 0, .int .i64 0] 30 (0, 0))) ∧ (Below w.heap.size w w')) ?_ ?_; rotate_left
                 ·
                  intro hJ3; refine join_ (σ := Nat) 5 #[true, false, false, false, true, false, true, false] (fun s_ => [(6, .pointer (some ⟨s_, 0, none⟩))]) (fun s_ w' => (w'.heap[gb960]? = some (.cells #[.slice none 0 0, .slice none 0 0, .slice none 0 0, .int .i64 0, .int .i64 0] 30 (0, 0))) ∧ (w'.heap[s_]? = some (.cells #[.slice none 0 0, .slice none 0 0, .slice none 0 0, .int .i64 0, .int .i64 0] 30 (0, 0))) ∧ (w.heap.size ≤ s_) ∧ (w.heap.size ≤ s_) ∧ (gb960 ≠ s_) ∧ (s_ ≠ gb960) ∧ (Below w.heap.size w w')) ?_ ?_; rotate_left
                  ·
                   intro hJ6; refine four_ (i := 1) (j := 2) (k := 3) (m := 6) (Ni := some 8) (Nj := some 9) (Nk := some 10) (Nm := some 6) #[true, true, false, false, true, false, false, false] #[true, false, true, false, true, false, false, false] #[true, false, false, true, true, false, false, false] #[true, false, false, false, true, false, true, false] rfl rfl rfl rfl rfl rfl rfl rfl (four_of HT_.out (by kernel_rfl)) (by decide) (by decide) (by decide) (by decide) (fun K hK => ?_) (fun K hK => ?_) (fun K hK => ?_) (fun K hK => ?_)
                   ·
                    skip; refine gs_ Try.func87 #[.slice A0 l0.length c0] ?_; (with_reducible refine (impl_Leg_87.calls _ _ l0 t961 _ ?side1 ?side2 A3.out).mono ?_); (case side1 => exact kc_ (Kd.C_below HR0.out HB.out)); (case side2 => exact HC0.out); rintro e w11 ⟨v962, rfl, ho0, hb⟩; refine ⟨_, rfl, ?_⟩; have HO963 := Aside0.mk (Kd.R_lower ho0 (below_size (lb1_ HB.out GE960.out))); replace BK960 := Aside0.mk (bb_ (bk_ BK960.out) hb); replace HB := Aside0.mk (below_step (lb1_ HB.out GE960.out) hb); (try clear hb); (try clear hb2); (try clear hk); (try clear hi); (try clear ho0); refine hK.out _ _ trivial (fun hHeld => ?_); clear hK K; refine na_ ?_; exact nj_ (hJ1 (v962) _ ⟨(kr_ HO963.out), (bk_ BK960.out), (lb1_ HB.out GE960.out)⟩)
                   ·
                    skip; refine Kd.R_make_step Kd.bool _ 4 (by rfl) (N := 9) rfl 23 _ _ rfl 8 rfl rfl Try.underlying23 (.bool false) 1 info4 rfl (by decide) (by omega) false (ok := fun _ => True) (okp := fun _ => True) rfl (fun _ hk => hk) trivial (by omega) (by omega) (Below.refl _ _) (Nat.le_refl _) ?_; intro v965 w11 ho12 hb hg_ hnew_; clear hg_ hnew_; replace ho12 := ry_ Ny964.out ho12; have HO966 := Aside0.mk (Kd.R_lower ho12 (below_size (lb1_ HB.out GE960.out))); replace BK960 := Aside0.mk (bb_ (bk_ BK960.out) hb); replace HB := Aside0.mk (below_step (lb1_ HB.out GE960.out) hb); clear hb ho12; refine hK.out _ _ trivial (fun hHeld => ?_); clear hK K; refine na_ ?_; exact nj_ (hJ2 (v965) _ ⟨(kr_ HO966.out), (bk_ BK960.out), (lb1_ HB.out GE960.out)⟩)
                   ·
                    skip; refine Kd.R_make_step Kd.bool _ 4 (by rfl) (N := 10) rfl 23 _ _ rfl 8 rfl rfl Try.underlying23 (.bool false) 1 info4 rfl (by decide) (by omega) false (ok := fun _ => True) (okp := fun _ => True) rfl (fun _ hk => hk) trivial (by omega) (by omega) (Below.refl _ _) (Nat.le_refl _) ?_; intro v968 w11 ho12 hb hg_ hnew_; clear hg_ hnew_; replace ho12 := ry_ Ny967.out ho12; have HO969 := Aside0.mk (Kd.R_lower ho12 (below_size (lb1_ HB.out GE960.out))); replace BK960 := Aside0.mk (bb_ (bk_ BK960.out) hb); replace HB := Aside0.mk (below_step (lb1_ HB.out GE960.out) hb); clear hb ho12; refine hK.out _ _ trivial (fun hHeld => ?_); clear hK K; refine na_ ?_; exact nj_ (hJ3 (v968) _ ⟨(kr_ HO969.out), (bk_ BK960.out), (lb1_ HB.out GE960.out)⟩)
                   ·
                    skip; refine box_step ?hg (N := 6) ?hd (cs := #[.slice none 0 0, .slice none 0 0, .slice none 0 0, .int .i64 0, .int .i64 0]) (t := 30) ?hr ?_; (case hd => rfl); (case hg => rfl); (case hr => first | (go_simp; done) | (go_simp; rfl)); intro gb970 hg w11 hbox hb; have BK970 := Aside0.mk (hbox); have GW970 := Aside0.mk ((bz_ hg (lb1_ HB.out GE960.out))); have GE970 := Aside0.mk ((bz_ hg (lb1_ HB.out GE960.out))); replace HB := Aside0.mk (below_step (lb1_ HB.out GE960.out) hb); have NB960_970 := Aside0.mk ((by rw [hg]; exact Nat.ne_of_lt (blk_lt (g := gb960) (o := .cells #[.slice none 0 0, .slice none 0 0, .slice none 0 0, .int .i64 0, .int .i64 0] 30 (0, 0)) (bk_ BK960.out)) : gb960 ≠ gb970)); have NB970_960 := Aside0.mk ((by rw [hg]; exact Nat.ne_of_gt (blk_lt (g := gb960) (o := .cells #[.slice none 0 0, .slice none 0 0, .slice none 0 0, .int .i64 0, .int .i64 0] 30 (0, 0)) (bk_ BK960.out)) : gb970 ≠ gb960)); replace BK960 := Aside0.mk (bb_ (bk_ BK960.out) hb); clear hb hbox hg; refine hK.out _ _ trivial (fun hHeld => ?_); clear hK K; refine na_ ?_; exact nj_ (hJ6 (gb970) _ ⟨(bk_ BK960.out), (bk_ BK970.out), GW970.out, GE970.out, NB960_970.out, NB970_960.out, (lb2_ HB.out GE960.out GE970.out)⟩)
                  ·
                   skip; rintro gb970 w12 ⟨h0_, h1_, h2_, h3_, h4_, h5_, h6_⟩; (try dsimp only at h0_ h1_ h2_ h3_ h4_ h5_ h6_); replace BK960 := Aside0.mk h0_; have BK970 := Aside0.mk h1_; have GW970 := Aside0.mk h2_; have GE970 := Aside0.mk h3_; have NB960_970 := Aside0.mk h4_; have NB970_960 := Aside0.mk h5_; replace HB := Aside0.mk h6_; clear h0_ h1_ h2_ h3_ h4_ h5_ h6_; have hHeld := trivial; refine nb_ ?_; refine three_ (i := 1) (j := 2) (k := 3) (Ni := some 8) (Nj := some 9) (Nk := some 10) #[true, true, false, false, true, false, true, false] #[true, false, true, false, true, false, true, false] #[true, false, false, true, true, false, true, false] rfl rfl rfl rfl rfl rfl (three_of HT_.out (by kernel_rfl)) (by decide) (by decide) (by decide) (fun K hK => ?_) (fun K hK => ?_) (fun K hK => ?_)
                   ·
                    skip; refine gs_ Try.func87 #[.slice A0 l0.length c0] ?_; (with_reducible refine (impl_Leg_87.calls _ _ l0 t961 _ ?side1 ?side2 A3.out).mono ?_); (case side1 => exact kc_ (Kd.C_below HR0.out HB.out)); (case side2 => exact HC0.out); rintro e w13 ⟨v962, rfl, ho0, hb⟩; refine ⟨_, rfl, ?_⟩; have HO963 := Aside0.mk (Kd.R_lower ho0 (below_size (lb2_ HB.out GE960.out GE970.out))); replace BK960 := Aside0.mk (bb_ (bk_ BK960.out) hb); replace BK970 := Aside0.mk (bb_ (bk_ BK970.out) hb); replace HB := Aside0.mk (below_step (lb2_ HB.out GE960.out GE970.out) hb); (try clear hb); (try clear hb2); (try clear hk); (try clear hi); (try clear ho0); refine hK.out _ _ trivial (fun hHeld => ?_); clear hK K; refine na_ ?_; exact nj_ (hJ1_6 (v962, gb970) _ ⟨(kr_ HO963.out), (bk_ BK960.out), (bk_ BK970.out), GW970.out, GE970.out, NB960_970.out, NB970_960.out, (lb2_ HB.out GE960.out GE970.out)⟩)
                   ·
                    skip; refine Kd.R_make_step Kd.bool _ 4 (by rfl) (N := 9) rfl 23 _ _ rfl 8 rfl rfl Try.underlying23 (.bool false) 1 info4 rfl (by decide) (by omega) false (ok := fun _ => True) (okp := fun _ => True) rfl (fun _ hk => hk) trivial (by omega) (by omega) (Below.refl _ _) (Nat.le_refl _) ?_; intro v965 w13 ho14 hb hg_ hnew_; clear hg_ hnew_; replace ho14 := ry_ Ny964.out ho14; have HO966 := Aside0.mk (Kd.R_lower ho14 (below_size (lb2_ HB.out GE960.out GE970.out))); replace BK960 := Aside0.mk (bb_ (bk_ BK960.out) hb); replace BK970 := Aside0.mk (bb_ (bk_ BK970.out) hb); replace HB := Aside0.mk (below_step (lb2_ HB.out GE960.out GE970.out) hb); clear hb ho14; refine hK.out _ _ trivial (fun hHeld => ?_); clear hK K; refine na_ ?_; exact nj_ (hJ2_6 (v965, gb970) _ ⟨(kr_ HO966.out), (bk_ BK960.out), (bk_ BK970.out), GW970.out, GE970.out, NB960_970.out, NB970_960.out, (lb2_ HB.out GE960.out GE970.out)⟩)
                   ·
                    skip; refine Kd.R_make_step Kd.bool _ 4 (by rfl) (N := 10) rfl 23 _ _ rfl 8 rfl rfl Try.underlying23 (.bool false) 1 info4 rfl (by decide) (by omega) false (ok := fun _ => True) (okp := fun _ => True) rfl (fun _ hk => hk) trivial (by omega) (by omega) (Below.refl _ _) (Nat.le_refl _) ?_; intro v968 w13 ho14 hb hg_ hnew_; clear hg_ hnew_; replace ho14 := ry_ Ny967.out ho14; have HO969 := Aside0.mk (Kd.R_lower ho14 (below_size (lb2_ HB.out GE960.out GE970.out))); replace BK960 := Aside0.mk (bb_ (bk_ BK960.out) hb); replace BK970 := Aside0.mk (bb_ (bk_ BK970.out) hb); replace HB := Aside0.mk (below_step (lb2_ HB.out GE960.out GE970.out) hb); clear hb ho14; refine hK.out _ _ trivial (fun hHeld => ?_); clear hK K; refine na_ ?_; exact nj_ (hJ3_6 (v968, gb970) _ ⟨(kr_ HO969.out), (bk_ BK960.out), (bk_ BK970.out), GW970.out, GE970.out, NB960_970.out, NB970_960.out, (lb2_ HB.out GE960.out GE970.out)⟩)
                 ·
                  skip; rintro v968 w13 ⟨h0_, h1_, h2_⟩; (try dsimp only at h0_ h1_ h2_); have HO969 := Aside0.mk h0_; replace BK960 := Aside0.mk h1_; replace HB := Aside0.mk h2_; clear h0_ h1_ h2_; have hHeld := trivial; refine nb_ ?_; refine three_ (i := 1) (j := 2) (k := 6) (Ni := some 8) (Nj := some 9) (Nk := some 6) #[true, true, false, true, true, false, false, false] #[true, false, true, true, true, false, false, false] #[true, false, false, true, true, false, true, false] rfl rfl rfl rfl rfl rfl (three_of HT_.out (by kernel_rfl)) (by decide) (by decide) (by decide) (fun K hK => ?_) (fun K hK => ?_) (fun K hK => ?_)
                  ·
                   skip; refine gs_ Try.func87 #[.slice A0 l0.length c0] ?_; (with_reducible refine (impl_Leg_87.calls _ _ l0 t961 _ ?side1 ?side2 A3.out).mono ?_); (case side1 => exact kc_ (Kd.C_below HR0.out HB.out)); (case side2 => exact HC0.out); rintro e w14 ⟨v962, rfl, ho0, hb⟩; refine ⟨_, rfl, ?_⟩; replace HO969 := Aside0.mk (Kd.R_below (kr_ HO969.out) hb); have HO963 := Aside0.mk (Kd.R_lower ho0 (below_size (lb1_ HB.out GE960.out))); replace BK960 := Aside0.mk (bb_ (bk_ BK960.out) hb); replace HB := Aside0.mk (below_step (lb1_ HB.out GE960.out) hb); (try clear hb); (try clear hb2); (try clear hk); (try clear hi); (try clear ho0); refine hK.out _ _ trivial (fun hHeld => ?_); clear hK K; refine na_ ?_; exact nj_ (hJ1_3 (v962, v968) _ ⟨(kr_ HO963.out), (kr_ HO969.out), (bk_ BK960.out), (lb1_ HB.out GE960.out)⟩)
                  ·
                   skip; refine Kd.R_make_step Kd.bool _ 4 (by rfl) (N := 9) rfl 23 _ _ rfl 8 rfl rfl Try.underlying23 (.bool false) 1 info4 rfl (by decide) (by omega) false (ok := fun _ => True) (okp := fun _ => True) rfl (fun _ hk => hk) trivial (by omega) (by omega) (Below.refl _ _) (Nat.le_refl _) ?_; intro v965 w14 ho15 hb hg_ hnew_; clear hg_ hnew_; replace ho15 := ry_ Ny964.out ho15; have HO966 := Aside0.mk (Kd.R_lower (Kd.R_new' ho15 (Kd.R_lt (kr_ HO969.out))) (below_size (lb1_ HB.out GE960.out))); replace HO969 := Aside0.mk (Kd.R_elder' (kr_ HO969.out) (Kd.R_base ho15) hb); replace BK960 := Aside0.mk (bb_ (bk_ BK960.out) hb); replace HB := Aside0.mk (below_step (lb1_ HB.out GE960.out) hb); clear hb ho15; refine hK.out _ _ trivial (fun hHeld => ?_); clear hK K; refine na_ ?_; exact nj_ (hJ2_3 (v965, v968) _ ⟨(krm_ HO966.out (fun _ hk => hk.2)), (krm_ HO969.out (fun _ hk => hk.2)), (bk_ BK960.out), (lb1_ HB.out GE960.out)⟩)
                  ·
                   skip; refine box_step ?hg (N := 6) ?hd (cs := #[.slice none 0 0, .slice none 0 0, .slice none 0 0, .int .i64 0, .int .i64 0]) (t := 30) ?hr ?_; (case hd => rfl); (case hg => rfl); (case hr => first | (go_simp; done) | (go_simp; rfl)); intro gb970 hg w14 hbox hb; replace HO969 := Aside0.mk (Kd.R_below (kr_ HO969.out) hb); have BK970 := Aside0.mk (hbox); have GW970 := Aside0.mk ((bz_ hg (lb1_ HB.out GE960.out))); have GE970 := Aside0.mk ((bz_ hg (lb1_ HB.out GE960.out))); replace HB := Aside0.mk (below_step (lb1_ HB.out GE960.out) hb); have NB960_970 := Aside0.mk ((by rw [hg]; exact Nat.ne_of_lt (blk_lt (g := gb960) (o := .cells #[.slice none 0 0, .slice none 0 0, .slice none 0 0, .int .i64 0, .int .i64 0] 30 (0, 0)) (bk_ BK960.out)) : gb960 ≠ gb970)); have NB970_960 := Aside0.mk ((by rw [hg]; exact Nat.ne_of_gt (blk_lt (g := gb960) (o := .cells #[.slice none 0 0, .slice none 0 0, .slice none 0 0, .int .i64 0, .int .i64 0] 30 (0, 0)) (bk_ BK960.out)) : gb970 ≠ gb960)); replace BK960 := Aside0.mk (bb_ (bk_ BK960.out) hb); clear hb hbox hg; refine hK.out _ _ trivial (fun hHeld => ?_); clear hK K; refine na_ ?_; exact nj_ (hJ3_6 (v968, gb970) _ ⟨(kr_ HO969.out), (bk_ BK960.out), (bk_ BK970.out), GW970.out, GE970.out, NB960_970.out, NB970_960.out, (lb2_ HB.out GE960.out GE970.out)⟩)
                ·
                 skip; rintro v965 w13 ⟨h0_, h1_, h2_⟩; (try dsimp only at h0_ h1_ h2_); have HO966 := Aside0.mk h0_; replace BK960 := Aside0.mk h1_; replace HB := Aside0.mk h2_; clear h0_ h1_ h2_; have hHeld := trivial; refine nb_ ?_; refine three_ (i := 1) (j := 3) (k := 6) (Ni := some 8) (Nj := some 10) (Nk := some 6) #[true, true, true, false, true, false, false, false] #[true, false, true, true, true, false, false, false] #[true, false, true, false, true, false, true, false] rfl rfl rfl rfl rfl rfl (three_of HT_.out (by kernel_rfl)) (by decide) (by decide) (by decide) (fun K hK => ?_) (fun K hK => ?_) (fun K hK => ?_)
                 ·
                  skip; refine gs_ Try.func87 #[.slice A0 l0.length c0] ?_; (with_reducible refine (impl_Leg_87.calls _ _ l0 t961 _ ?side1 ?side2 A3.out).mono ?_); (case side1 => exact kc_ (Kd.C_below HR0.out HB.out)); (case side2 => exact HC0.out); rintro e w14 ⟨v962, rfl, ho0, hb⟩; refine ⟨_, rfl, ?_⟩; replace HO966 := Aside0.mk (Kd.R_below (kr_ HO966.out) hb); have HO963 := Aside0.mk (Kd.R_lower ho0 (below_size (lb1_ HB.out GE960.out))); replace BK960 := Aside0.mk (bb_ (bk_ BK960.out) hb); replace HB := Aside0.mk (below_step (lb1_ HB.out GE960.out) hb); (try clear hb); (try clear hb2); (try clear hk); (try clear hi); (try clear ho0); refine hK.out _ _ trivial (fun hHeld => ?_); clear hK K; refine na_ ?_; exact nj_ (hJ1_2 (v962, v965) _ ⟨(kr_ HO963.out), (kr_ HO966.out), (bk_ BK960.out), (lb1_ HB.out GE960.out)⟩)
                 ·
                  skip; refine Kd.R_make_step Kd.bool _ 4 (by rfl) (N := 10) rfl 23 _ _ rfl 8 rfl rfl Try.underlying23 (.bool false) 1 info4 rfl (by decide) (by omega) false (ok := fun _ => True) (okp := fun _ => True) rfl (fun _ hk => hk) trivial (by omega) (by omega) (Below.refl _ _) (Nat.le_refl _) ?_; intro v968 w14 ho15 hb hg_ hnew_; clear hg_ hnew_; replace ho15 := ry_ Ny967.out ho15; have HO969 := Aside0.mk (Kd.R_lower (Kd.R_new' ho15 (Kd.R_lt (kr_ HO966.out))) (below_size (lb1_ HB.out GE960.out))); replace HO966 := Aside0.mk (Kd.R_elder' (kr_ HO966.out) (Kd.R_base ho15) hb); replace BK960 := Aside0.mk (bb_ (bk_ BK960.out) hb); replace HB := Aside0.mk (below_step (lb1_ HB.out GE960.out) hb); clear hb ho15; refine hK.out _ _ trivial (fun hHeld => ?_); clear hK K; refine na_ ?_; exact nj_ (hJ2_3 (v965, v968) _ ⟨(krm_ HO966.out (fun _ hk => hk.2)), (krm_ HO969.out (fun _ hk => hk.2)), (bk_ BK960.out), (lb1_ HB.out GE960.out)⟩)
                 ·
                  skip; refine box_step ?hg (N := 6) ?hd (cs := #[.slice none 0 0, .slice none 0 0, .slice none 0 0, .int .i64 0, .int .i64 0]) (t := 30) ?hr ?_; (case hd => rfl); (case hg => rfl); (case hr => first | (go_simp; done) | (go_simp; rfl)); intro gb970 hg w14 hbox hb; replace HO966 := Aside0.mk (Kd.R_below (kr_ HO966.out) hb); have BK970 := Aside0.mk (hbox); have GW970 := Aside0.mk ((bz_ hg (lb1_ HB.out GE960.out))); have GE970 := Aside0.mk ((bz_ hg (lb1_ HB.out GE960.out))); replace HB := Aside0.mk (below_step (lb1_ HB.out GE960.out) hb); have NB960_970 := Aside0.mk ((by rw [hg]; exact Nat.ne_of_lt (blk_lt (g := gb960) (o := .cells #[.slice none 0 0, .slice none 0 0, .slice none 0 0, .int .i64 0, .int .i64 0] 30 (0, 0)) (bk_ BK960.out)) : gb960 ≠ gb970)); have NB970_960 := Aside0.mk ((by rw [hg]; exact Nat.ne_of_gt (blk_lt (g := gb960) (o := .cells #[.slice none 0 0, .slice none 0 0, .slice none 0 0, .int .i64 0, .int .i64 0] 30 (0, 0)) (bk_ BK960.out)) : gb970 ≠ gb960)); replace BK960 := Aside0.mk (bb_ (bk_ BK960.out) hb); clear hb hbox hg; refine hK.out _ _ trivial (fun hHeld => ?_); clear hK K; refine na_ ?_; exact nj_ (hJ2_6 (v965, gb970) _ ⟨(kr_ HO966.out), (bk_ BK960.out), (bk_ BK970.out), GW970.out, GE970.out, NB960_970.out, NB970_960.out, (lb2_ HB.out GE960.out GE970.out)⟩)
               ·
                skip; rintro v962 w12 ⟨h0_, h1_, h2_⟩; (try dsimp only at h0_ h1_ h2_); have HO963 := Aside0.mk h0_; replace BK960 := Aside0.mk h1_; replace HB := Aside0.mk h2_; clear h0_ h1_ h2_; have hHeld := trivial; refine nb_ ?_; refine three_ (i := 2) (j := 3) (k := 6) (Ni := some 9) (Nj := some 10) (Nk := some 6) #[true, true, true, false, true, false, false, false] #[true, true, false, true, true, false, false, false] #[true, true, false, false, true, false, true, false] rfl rfl rfl rfl rfl rfl (three_of HT_.out (by kernel_rfl)) (by decide) (by decide) (by decide) (fun K hK => ?_) (fun K hK => ?_) (fun K hK => ?_)
                ·
                 skip; refine Kd.R_make_step Kd.bool _ 4 (by rfl) (N := 9) rfl 23 _ _ rfl 8 rfl rfl Try.underlying23 (.bool false) 1 info4 rfl (by decide) (by omega) false (ok := fun _ => True) (okp := fun _ => True) rfl (fun _ hk => hk) trivial (by omega) (by omega) (Below.refl _ _) (Nat.le_refl _) ?_; intro v965 w13 ho14 hb hg_ hnew_; clear hg_ hnew_; replace ho14 := ry_ Ny964.out ho14; replace HO963 := Aside0.mk (Kd.R_below (kr_ HO963.out) hb); have HO966 := Aside0.mk (Kd.R_lower ho14 (below_size (lb1_ HB.out GE960.out))); replace BK960 := Aside0.mk (bb_ (bk_ BK960.out) hb); replace HB := Aside0.mk (below_step (lb1_ HB.out GE960.out) hb); clear hb ho14; refine hK.out _ _ trivial (fun hHeld => ?_); clear hK K; refine na_ ?_; exact nj_ (hJ1_2 (v962, v965) _ ⟨(kr_ HO963.out), (kr_ HO966.out), (bk_ BK960.out), (lb1_ HB.out GE960.out)⟩)
                ·
                 skip; refine Kd.R_make_step Kd.bool _ 4 (by rfl) (N := 10) rfl 23 _ _ rfl 8 rfl rfl Try.underlying23 (.bool false) 1 info4 rfl (by decide) (by omega) false (ok := fun _ => True) (okp := fun _ => True) rfl (fun _ hk => hk) trivial (by omega) (by omega) (Below.refl _ _) (Nat.le_refl _) ?_; intro v968 w13 ho14 hb hg_ hnew_; clear hg_ hnew_; replace ho14 := ry_ Ny967.out ho14; replace HO963 := Aside0.mk (Kd.R_below (kr_ HO963.out) hb); have HO969 := Aside0.mk (Kd.R_lower ho14 (below_size (lb1_ HB.out GE960.out))); replace BK960 := Aside0.mk (bb_ (bk_ BK960.out) hb); replace HB := Aside0.mk (below_step (lb1_ HB.out GE960.out) hb); clear hb ho14; refine hK.out _ _ trivial (fun hHeld => ?_); clear hK K; refine na_ ?_; exact nj_ (hJ1_3 (v962, v968) _ ⟨(kr_ HO963.out), (kr_ HO969.out), (bk_ BK960.out), (lb1_ HB.out GE960.out)⟩)
                ·
                 skip; refine box_step ?hg (N := 6) ?hd (cs := #[.slice none 0 0, .slice none 0 0, .slice none 0 0, .int .i64 0, .int .i64 0]) (t := 30) ?hr ?_; (case hd => rfl); (case hg => rfl); (case hr => first | (go_simp; done) | (go_simp; rfl)); intro gb970 hg w13 hbox hb; replace HO963 := Aside0.mk (Kd.R_below (kr_ HO963.out) hb); have BK970 := Aside0.mk (hbox); have GW970 := Aside0.mk ((bz_ hg (lb1_ HB.out GE960.out))); have GE970 := Aside0.mk ((bz_ hg (lb1_ HB.out GE960.out))); replace HB := Aside0.mk (below_step (lb1_ HB.out GE960.out) hb); have NB960_970 := Aside0.mk ((by rw [hg]; exact Nat.ne_of_lt (blk_lt (g := gb960) (o := .cells #[.slice none 0 0, .slice none 0 0, .slice none 0 0, .int .i64 0, .int .i64 0] 30 (0, 0)) (bk_ BK960.out)) : gb960 ≠ gb970)); have NB970_960 := Aside0.mk ((by rw [hg]; exact Nat.ne_of_gt (blk_lt (g := gb960) (o := .cells #[.slice none 0 0, .slice none 0 0, .slice none 0 0, .int .i64 0, .int .i64 0] 30 (0, 0)) (bk_ BK960.out)) : gb970 ≠ gb960)); replace BK960 := Aside0.mk (bb_ (bk_ BK960.out) hb); clear hb hbox hg; refine hK.out _ _ trivial (fun hHeld => ?_); clear hK K; refine na_ ?_; exact nj_ (hJ1_6 (v962, gb970) _ ⟨(kr_ HO963.out), (bk_ BK960.out), (bk_ BK970.out), GW970.out, GE970.out, NB960_970.out, NB970_960.out, (lb2_ HB.out GE960.out GE970.out)⟩)
              ·
               skip; rintro ⟨v968, gb970⟩ w14 ⟨h0_, h1_, h2_, h3_, h4_, h5_, h6_, h7_⟩; (try dsimp only at h0_ h1_ h2_ h3_ h4_ h5_ h6_ h7_); have HO969 := Aside0.mk h0_; replace BK960 := Aside0.mk h1_; have BK970 := Aside0.mk h2_; have GW970 := Aside0.mk h3_; have GE970 := Aside0.mk h4_; have NB960_970 := Aside0.mk h5_; have NB970_960 := Aside0.mk h6_; replace HB := Aside0.mk h7_; clear h0_ h1_ h2_ h3_ h4_ h5_ h6_ h7_; have hHeld := trivial; refine nb_ ?_; refine two_ (i := 1) (j := 2) (Ni := some 8) (Nj := some 9) #[true, true, false, true, true, false, true, false] #[true, false, true, true, true, false, true, false] rfl rfl rfl rfl (two_of HT_.out (by kernel_rfl)) (by decide) (by decide) (fun K hK => ?_) (fun K hK => ?_)
               ·
                skip; refine gs_ Try.func87 #[.slice A0 l0.length c0] ?_; (with_reducible refine (impl_Leg_87.calls _ _ l0 t961 _ ?side1 ?side2 A3.out).mono ?_); (case side1 => exact kc_ (Kd.C_below HR0.out HB.out)); (case side2 => exact HC0.out); rintro e w15 ⟨v962, rfl, ho0, hb⟩; refine ⟨_, rfl, ?_⟩; replace HO969 := Aside0.mk (Kd.R_below (kr_ HO969.out) hb); have HO963 := Aside0.mk (Kd.R_lower ho0 (below_size (lb2_ HB.out GE960.out GE970.out))); replace BK960 := Aside0.mk (bb_ (bk_ BK960.out) hb); replace BK970 := Aside0.mk (bb_ (bk_ BK970.out) hb); replace HB := Aside0.mk (below_step (lb2_ HB.out GE960.out GE970.out) hb); (try clear hb); (try clear hb2); (try clear hk); (try clear hi); (try clear ho0); refine hK.out _ _ trivial (fun hHeld => ?_); clear hK K; refine na_ ?_; exact nj_ (hJ1_3_6 (v962, v968, gb970) _ ⟨(kr_ HO963.out), (kr_ HO969.out), (bk_ BK960.out), (bk_ BK970.out), GW970.out, GE970.out, NB960_970.out, NB970_960.out, (lb2_ HB.out GE960.out GE970.out)⟩)
               ·
                skip; refine Kd.R_make_step Kd.bool _ 4 (by rfl) (N := 9) rfl 23 _ _ rfl 8 rfl rfl Try.underlying23 (.bool false) 1 info4 rfl (by decide) (by omega) false (ok := fun _ => True) (okp := fun _ => True) rfl (fun _ hk => hk) trivial (by omega) (by omega) (Below.refl _ _) (Nat.le_refl _) ?_; intro v965 w15 ho16 hb hg_ hnew_; clear hg_ hnew_; replace ho16 := ry_ Ny964.out ho16; have HO966 := Aside0.mk (Kd.R_lower (Kd.R_new' ho16 (Kd.R_lt (kr_ HO969.out))) (below_size (lb2_ HB.out GE960.out GE970.out))); replace HO969 := Aside0.mk (Kd.R_elder' (kr_ HO969.out) (Kd.R_base ho16) hb); replace BK960 := Aside0.mk (bb_ (bk_ BK960.out) hb); replace BK970 := Aside0.mk (bb_ (bk_ BK970.out) hb); replace HB := Aside0.mk (below_step (lb2_ HB.out GE960.out GE970.out) hb); clear hb ho16; refine hK.out _ _ trivial (fun hHeld => ?_); clear hK K; refine na_ ?_; exact nj_ (hJ2_3_6 (v965, v968, gb970) _ ⟨(krm_ HO966.out (fun _ hk => hk.2)), (krm_ HO969.out (fun _ hk => hk.2)), (bk_ BK960.out), (bk_ BK970.out), GW970.out, GE970.out, NB960_970.out, NB970_960.out, (lb2_ HB.out GE960.out GE970.out)⟩)
             ·
              skip; rintro ⟨v965, gb970⟩ w14 ⟨h0_, h1_, h2_, h3_, h4_, h5_, h6_, h7_⟩; (try dsimp only at h0_ h1_ h2_ h3_ h4_ h5_ h6_ h7_); have HO966 := Aside0.mk h0_; replace BK960 := Aside0.mk h1_; have BK970 := Aside0.mk h2_; have GW970 := Aside0.mk h3_; have GE970 := Aside0.mk h4_; have NB960_970 := Aside0.mk h5_; have NB970_960 := Aside0.mk h6_; replace HB := Aside0.mk h7_; clear h0_ h1_ h2_ h3_ h4_ h5_ h6_ h7_; have hHeld := trivial; refine nb_ ?_; refine two_ (i := 1) (j := 3) (Ni := some 8) (Nj := some 10) #[true, true, true, false, true, false, true, false] #[true, false, true, true, true, false, true, false] rfl rfl rfl rfl (two_of HT_.out (by kernel_rfl)) (by decide) (by decide) (fun K hK => ?_) (fun K hK => ?_)
              ·
               skip; refine gs_ Try.func87 #[.slice A0 l0.length c0] ?_; (with_reducible refine (impl_Leg_87.calls _ _ l0 t961 _ ?side1 ?side2 A3.out).mono ?_); (case side1 => exact kc_ (Kd.C_below HR0.out HB.out)); (case side2 => exact HC0.out); rintro e w15 ⟨v962, rfl, ho0, hb⟩; refine ⟨_, rfl, ?_⟩; replace HO966 := Aside0.mk (Kd.R_below (kr_ HO966.out) hb); have HO963 := Aside0.mk (Kd.R_lower ho0 (below_size (lb2_ HB.out GE960.out GE970.out))); replace BK960 := Aside0.mk (bb_ (bk_ BK960.out) hb); replace BK970 := Aside0.mk (bb_ (bk_ BK970.out) hb); replace HB := Aside0.mk (below_step (lb2_ HB.out GE960.out GE970.out) hb); (try clear hb); (try clear hb2); (try clear hk); (try clear hi); (try clear ho0); refine hK.out _ _ trivial (fun hHeld => ?_); clear hK K; refine na_ ?_; exact nj_ (hJ1_2_6 (v962, v965, gb970) _ ⟨(kr_ HO963.out), (kr_ HO966.out), (bk_ BK960.out), (bk_ BK970.out), GW970.out, GE970.out, NB960_970.out, NB970_960.out, (lb2_ HB.out GE960.out GE970.out)⟩)
              ·
               skip; refine Kd.R_make_step Kd.bool _ 4 (by rfl) (N := 10) rfl 23 _ _ rfl 8 rfl rfl Try.underlying23 (.bool false) 1 info4 rfl (by decide) (by omega) false (ok := fun _ => True) (okp := fun _ => True) rfl (fun _ hk => hk) trivial (by omega) (by omega) (Below.refl _ _) (Nat.le_refl _) ?_; intro v968 w15 ho16 hb hg_ hnew_; clear hg_ hnew_; replace ho16 := ry_ Ny967.out ho16; have HO969 := Aside0.mk (Kd.R_lower (Kd.R_new' ho16 (Kd.R_lt (kr_ HO966.out))) (below_size (lb2_ HB.out GE960.out GE970.out))); replace HO966 := Aside0.mk (Kd.R_elder' (kr_ HO966.out) (Kd.R_base ho16) hb); replace BK960 := Aside0.mk (bb_ (bk_ BK960.out) hb); replace BK970 := Aside0.mk (bb_ (bk_ BK970.out) hb); replace HB := Aside0.mk (below_step (lb2_ HB.out GE960.out GE970.out) hb); clear hb ho16; refine hK.out _ _ trivial (fun hHeld => ?_); clear hK K; refine na_ ?_; exact nj_ (hJ2_3_6 (v965, v968, gb970) _ ⟨(krm_ HO966.out (fun _ hk => hk.2)), (krm_ HO969.out (fun _ hk => hk.2)), (bk_ BK960.out), (bk_ BK970.out), GW970.out, GE970.out, NB960_970.out, NB970_960.out, (lb2_ HB.out GE960.out GE970.out)⟩)
            ·
             skip; rintro ⟨v965, v968⟩ w15 ⟨h0_, h1_, h2_, h3_⟩; (try dsimp only at h0_ h1_ h2_ h3_); have HO966 := Aside0.mk h0_; have HO969 := Aside0.mk h1_; replace BK960 := Aside0.mk h2_; replace HB := Aside0.mk h3_; clear h0_ h1_ h2_ h3_; have hHeld := trivial; refine nb_ ?_; refine two_ (i := 1) (j := 6) (Ni := some 8) (Nj := some 6) #[true, true, true, true, true, false, false, false] #[true, false, true, true, true, false, true, false] rfl rfl rfl rfl (two_of HT_.out (by kernel_rfl)) (by decide) (by decide) (fun K hK => ?_) (fun K hK => ?_)
             ·
              skip; refine gs_ Try.func87 #[.slice A0 l0.length c0] ?_; (with_reducible refine (impl_Leg_87.calls _ _ l0 t961 _ ?side1 ?side2 A3.out).mono ?_); (case side1 => exact kc_ (Kd.C_below HR0.out HB.out)); (case side2 => exact HC0.out); rintro e w16 ⟨v962, rfl, ho0, hb⟩; refine ⟨_, rfl, ?_⟩; replace HO966 := Aside0.mk (Kd.R_below (kr_ HO966.out) hb); replace HO969 := Aside0.mk (Kd.R_below (kr_ HO969.out) hb); have HO963 := Aside0.mk (Kd.R_lower ho0 (below_size (lb1_ HB.out GE960.out))); replace BK960 := Aside0.mk (bb_ (bk_ BK960.out) hb); replace HB := Aside0.mk (below_step (lb1_ HB.out GE960.out) hb); (try clear hb); (try clear hb2); (try clear hk); (try clear hi); (try clear ho0); obtain ⟨Ao17, co17, eo17⟩ := Kd.R_slice HO969.out
              (first | subst eo17 | (injection eo17 with f1_ f2_ f3_; have f4_ := f1_.symm; have f5_ := f3_.symm; clear f1_ f2_ f3_; subst f4_; subst f5_))
              obtain ⟨Ao18, co18, eo18⟩ := Kd.R_slice HO966.out
              (first | subst eo18 | (injection eo18 with f1_ f2_ f3_; have f4_ := f1_.symm; have f5_ := f3_.symm; clear f1_ f2_ f3_; subst f4_; subst f5_))
              obtain ⟨Ao19, co19, eo19⟩ := Kd.R_slice HO963.out
              (first | subst eo19 | (injection eo19 with f1_ f2_ f3_; have f4_ := f1_.symm; have f5_ := f3_.symm; clear f1_ f2_ f3_; subst f4_; subst f5_))
              refine hK.out _ _ trivial (fun hHeld => ?_); clear hK K; refine na_ ?_; refine pz_ HT_ 5 (some 12) #[true, true, true, true, true, true, false, false] ?_; exact nj_ (hJ1_2_3 (.slice Ao19 t961.length co19, .slice Ao18 y964.length co18, .slice Ao17 y967.length co17) _ ⟨(kr_ HO963.out), (kr_ HO966.out), (kr_ HO969.out), (bk_ BK960.out), (lb1_ HB.out GE960.out)⟩)
             ·
              skip; refine box_step ?hg (N := 6) ?hd (cs := #[.slice none 0 0, .slice none 0 0, .slice none 0 0, .int .i64 0, .int .i64 0]) (t := 30) ?hr ?_; (case hd => rfl); (case hg => rfl); (case hr => first | (go_simp; done) | (go_simp; rfl)); intro gb970 hg w16 hbox hb; replace HO966 := Aside0.mk (Kd.R_below (kr_ HO966.out) hb); replace HO969 := Aside0.mk (Kd.R_below (kr_ HO969.out) hb); have BK970 := Aside0.mk (hbox); have GW970 := Aside0.mk ((bz_ hg (lb1_ HB.out GE960.out))); have GE970 := Aside0.mk ((bz_ hg (lb1_ HB.out GE960.out))); replace HB := Aside0.mk (below_step (lb1_ HB.out GE960.out) hb); have NB960_970 := Aside0.mk ((by rw [hg]; exact Nat.ne_of_lt (blk_lt (g := gb960) (o := .cells #[.slice none 0 0, .slice none 0 0, .slice none 0 0, .int .i64 0, .int .i64 0] 30 (0, 0)) (bk_ BK960.out)) : gb960 ≠ gb970)); have NB970_960 := Aside0.mk ((by rw [hg]; exact Nat.ne_of_gt (blk_lt (g := gb960) (o := .cells #[.slice none 0 0, .slice none 0 0, .slice none 0 0, .int .i64 0, .int .i64 0] 30 (0, 0)) (bk_ BK960.out)) : gb970 ≠ gb960)); replace BK960 := Aside0.mk (bb_ (bk_ BK960.out) hb); clear hb hbox hg; refine hK.out _ _ trivial (fun hHeld => ?_); clear hK K; refine na_ ?_; exact nj_ (hJ2_3_6 (v965, v968, gb970) _ ⟨(kr_ HO966.out), (kr_ HO969.out), (bk_ BK960.out), (bk_ BK970.out), GW970.out, GE970.out, NB960_970.out, NB970_960.out, (lb2_ HB.out GE960.out GE970.out)⟩)
           ·
            skip; rintro ⟨v962, gb970⟩ w13 ⟨h0_, h1_, h2_, h3_, h4_, h5_, h6_, h7_⟩; (try dsimp only at h0_ h1_ h2_ h3_ h4_ h5_ h6_ h7_); have HO963 := Aside0.mk h0_; replace BK960 := Aside0.mk h1_; have BK970 := Aside0.mk h2_; have GW970 := Aside0.mk h3_; have GE970 := Aside0.mk h4_; have NB960_970 := Aside0.mk h5_; have NB970_960 := Aside0.mk h6_; replace HB := Aside0.mk h7_; clear h0_ h1_ h2_ h3_ h4_ h5_ h6_ h7_; have hHeld := trivial; refine nb_ ?_; refine two_ (i := 2) (j := 3) (Ni := some 9) (Nj := some 10) #[true, true, true, false, true, false, true, false] #[true, true, false, true, true, false, true, false] rfl rfl rfl rfl (two_of HT_.out (by kernel_rfl)) (by decide) (by decide) (fun K hK => ?_) (fun K hK => ?_)
            ·
             skip; refine Kd.R_make_step Kd.bool _ 4 (by rfl) (N := 9) rfl 23 _ _ rfl 8 rfl rfl Try.underlying23 (.bool false) 1 info4 rfl (by decide) (by omega) false (ok := fun _ => True) (okp := fun _ => True) rfl (fun _ hk => hk) trivial (by omega) (by omega) (Below.refl _ _) (Nat.le_refl _) ?_; intro v965 w14 ho15 hb hg_ hnew_; clear hg_ hnew_; replace ho15 := ry_ Ny964.out ho15; replace HO963 := Aside0.mk (Kd.R_below (kr_ HO963.out) hb); have HO966 := Aside0.mk (Kd.R_lower ho15 (below_size (lb2_ HB.out GE960.out GE970.out))); replace BK960 := Aside0.mk (bb_ (bk_ BK960.out) hb); replace BK970 := Aside0.mk (bb_ (bk_ BK970.out) hb); replace HB := Aside0.mk (below_step (lb2_ HB.out GE960.out GE970.out) hb); clear hb ho15; refine hK.out _ _ trivial (fun hHeld => ?_); clear hK K; refine na_ ?_; exact nj_ (hJ1_2_6 (v962, v965, gb970) _ ⟨(kr_ HO963.out), (kr_ HO966.out), (bk_ BK960.out), (bk_ BK970.out), GW970.out, GE970.out, NB960_970.out, NB970_960.out, (lb2_ HB.out GE960.out GE970.out)⟩)
            ·
             skip; refine Kd.R_make_step Kd.bool _ 4 (by rfl) (N := 10) rfl 23 _ _ rfl 8 rfl rfl Try.underlying23 (.bool false) 1 info4 rfl (by decide) (by omega) false (ok := fun _ => True) (okp := fun _ => True) rfl (fun _ hk => hk) trivial (by omega) (by omega) (Below.refl _ _) (Nat.le_refl _) ?_; intro v968 w14 ho15 hb hg_ hnew_; clear hg_ hnew_; replace ho15 := ry_ Ny967.out ho15; replace HO963 := Aside0.mk (Kd.R_below (kr_ HO963.out) hb); have HO969 := Aside0.mk (Kd.R_lower ho15 (below_size (lb2_ HB.out GE960.out GE970.out))); replace BK960 := Aside0.mk (bb_ (bk_ BK960.out) hb); replace BK970 := Aside0.mk (bb_ (bk_ BK970.out) hb); replace HB := Aside0.mk (below_step (lb2_ HB.out GE960.out GE970.out) hb); clear hb ho15; refine hK.out _ _ trivial (fun hHeld => ?_); clear hK K; refine na_ ?_; exact nj_ (hJ1_3_6 (v962, v968, gb970) _ ⟨(kr_ HO963.out), (kr_ HO969.out), (bk_ BK960.out), (bk_ BK970.out), GW970.out, GE970.out, NB960_970.out, NB970_960.out, (lb2_ HB.out GE960.out GE970.out)⟩)
          ·
           skip; rintro ⟨v962, v968⟩ w14 ⟨h0_, h1_, h2_, h3_⟩; (try dsimp only at h0_ h1_ h2_ h3_); have HO963 := Aside0.mk h0_; have HO969 := Aside0.mk h1_; replace BK960 := Aside0.mk h2_; replace HB := Aside0.mk h3_; clear h0_ h1_ h2_ h3_; have hHeld := trivial; refine nb_ ?_; refine two_ (i := 2) (j := 6) (Ni := some 9) (Nj := some 6) #[true, true, true, true, true, false, false, false] #[true, true, false, true, true, false, true, false] rfl rfl rfl rfl (two_of HT_.out (by kernel_rfl)) (by decide) (by decide) (fun K hK => ?_) (fun K hK => ?_)
           ·
            skip; refine Kd.R_make_step Kd.bool _ 4 (by rfl) (N := 9) rfl 23 _ _ rfl 8 rfl rfl Try.underlying23 (.bool false) 1 info4 rfl (by decide) (by omega) false (ok := fun _ => True) (okp := fun _ => True) rfl (fun _ hk => hk) trivial (by omega) (by omega) (Below.refl _ _) (Nat.le_refl _) ?_; intro v965 w15 ho16 hb hg_ hnew_; clear hg_ hnew_; replace ho16 := ry_ Ny964.out ho16; replace HO963 := Aside0.mk (Kd.R_below (kr_ HO963.out) hb); have HO966 := Aside0.mk (Kd.R_lower (Kd.R_new' ho16 (Kd.R_lt (kr_ HO969.out))) (below_size (lb1_ HB.out GE960.out))); replace HO969 := Aside0.mk (Kd.R_elder' (kr_ HO969.out) (Kd.R_base ho16) hb); replace BK960 := Aside0.mk (bb_ (bk_ BK960.out) hb); replace HB := Aside0.mk (below_step (lb1_ HB.out GE960.out) hb); clear hb ho16; obtain ⟨Ao17, co17, eo17⟩ := Kd.R_slice HO969.out
            (first | subst eo17 | (injection eo17 with f1_ f2_ f3_; have f4_ := f1_.symm; have f5_ := f3_.symm; clear f1_ f2_ f3_; subst f4_; subst f5_))
            obtain ⟨Ao18, co18, eo18⟩ := Kd.R_slice HO966.out
            (first | subst eo18 | (injection eo18 with f1_ f2_ f3_; have f4_ := f1_.symm; have f5_ := f3_.symm; clear f1_ f2_ f3_; subst f4_; subst f5_))
            obtain ⟨Ao19, co19, eo19⟩ := Kd.R_slice HO963.out
            (first | subst eo19 | (injection eo19 with f1_ f2_ f3_; have f4_ := f1_.symm; have f5_ := f3_.symm; clear f1_ f2_ f3_; subst f4_; subst f5_))
            refine hK.out _ _ trivial (fun hHeld => ?_); clear hK K; refine na_ ?_; refine pz_ HT_ 5 (some 12) #[true, true, true, true, true, true, false, false] ?_; exact nj_ (hJ1_2_3 (.slice Ao19 t961.length co19, .slice Ao18 y964.length co18, .slice Ao17 y967.length co17) _ ⟨(kr_ HO963.out), (krm_ HO966.out (fun _ hk => hk.2)), (krm_ HO969.out (fun _ hk => hk.2)), (bk_ BK960.out), (lb1_ HB.out GE960.out)⟩)
           ·
            skip; refine box_step ?hg (N := 6) ?hd (cs := #[.slice none 0 0, .slice none 0 0, .slice none 0 0, .int .i64 0, .int .i64 0]) (t := 30) ?hr ?_; (case hd => rfl); (case hg => rfl); (case hr => first | (go_simp; done) | (go_simp; rfl)); intro gb970 hg w15 hbox hb; replace HO963 := Aside0.mk (Kd.R_below (kr_ HO963.out) hb); replace HO969 := Aside0.mk (Kd.R_below (kr_ HO969.out) hb); have BK970 := Aside0.mk (hbox); have GW970 := Aside0.mk ((bz_ hg (lb1_ HB.out GE960.out))); have GE970 := Aside0.mk ((bz_ hg (lb1_ HB.out GE960.out))); replace HB := Aside0.mk (below_step (lb1_ HB.out GE960.out) hb); have NB960_970 := Aside0.mk ((by rw [hg]; exact Nat.ne_of_lt (blk_lt (g := gb960) (o := .cells #[.slice none 0 0, .slice none 0 0, .slice none 0 0, .int .i64 0, .int .i64 0] 30 (0, 0)) (bk_ BK960.out)) : gb960 ≠ gb970)); have NB970_960 := Aside0.mk ((by rw [hg]; exact Nat.ne_of_gt (blk_lt (g := gb960) (o := .cells #[.slice none 0 0, .slice none 0 0, .slice none 0 0, .int .i64 0, .int .i64 0] 30 (0, 0)) (bk_ BK960.out)) : gb970 ≠ gb960)); replace BK960 := Aside0.mk (bb_ (bk_ BK960.out) hb); clear hb hbox hg; refine hK.out _ _ trivial (fun hHeld => ?_); clear hK K; refine na_ ?_; exact nj_ (hJ1_3_6 (v962, v968, gb970) _ ⟨(kr_ HO963.out), (kr_ HO969.out), (bk_ BK960.out), (bk_ BK970.out), GW970.out, GE970.out, NB960_970.out, NB970_960.out, (lb2_ HB.out GE960.out GE970.out)⟩)
         ·
          skip; rintro ⟨v962, v965⟩ w14 ⟨h0_, h1_, h2_, h3_⟩; (try dsimp only at h0_ h1_ h2_ h3_); have HO963 := Aside0.mk h0_; have HO966 := Aside0.mk h1_; replace BK960 := Aside0.mk h2_; replace HB := Aside0.mk h3_; clear h0_ h1_ h2_ h3_; have hHeld := trivial; refine nb_ ?_; refine two_ (i := 3) (j := 6) (Ni := some 10) (Nj := some 6) #[true, true, true, true, true, false, false, false] #[true, true, true, false, true, false, true, false] rfl rfl rfl rfl (two_of HT_.out (by kernel_rfl)) (by decide) (by decide) (fun K hK => ?_) (fun K hK => ?_)
          ·
           skip; refine Kd.R_make_step Kd.bool _ 4 (by rfl) (N := 10) rfl 23 _ _ rfl 8 rfl rfl Try.underlying23 (.bool false) 1 info4 rfl (by decide) (by omega) false (ok := fun _ => True) (okp := fun _ => True) rfl (fun _ hk => hk) trivial (by omega) (by omega) (Below.refl _ _) (Nat.le_refl _) ?_; intro v968 w15 ho16 hb hg_ hnew_; clear hg_ hnew_; replace ho16 := ry_ Ny967.out ho16; replace HO963 := Aside0.mk (Kd.R_below (kr_ HO963.out) hb); have HO969 := Aside0.mk (Kd.R_lower (Kd.R_new' ho16 (Kd.R_lt (kr_ HO966.out))) (below_size (lb1_ HB.out GE960.out))); replace HO966 := Aside0.mk (Kd.R_elder' (kr_ HO966.out) (Kd.R_base ho16) hb); replace BK960 := Aside0.mk (bb_ (bk_ BK960.out) hb); replace HB := Aside0.mk (below_step (lb1_ HB.out GE960.out) hb); clear hb ho16; obtain ⟨Ao17, co17, eo17⟩ := Kd.R_slice HO969.out
           (first | subst eo17 | (injection eo17 with f1_ f2_ f3_; have f4_ := f1_.symm; have f5_ := f3_.symm; clear f1_ f2_ f3_; subst f4_; subst f5_))
           obtain ⟨Ao18, co18, eo18⟩ := Kd.R_slice HO966.out
           (first | subst eo18 | (injection eo18 with f1_ f2_ f3_; have f4_ := f1_.symm; have f5_ := f3_.symm; clear f1_ f2_ f3_; subst f4_; subst f5_))
           obtain ⟨Ao19, co19, eo19⟩ := Kd.R_slice HO963.out
           (first | subst eo19 | (injection eo19 with f1_ f2_ f3_; have f4_ := f1_.symm; have f5_ := f3_.symm; clear f1_ f2_ f3_; subst f4_; subst f5_))
           refine hK.out _ _ trivial (fun hHeld => ?_); clear hK K; refine na_ ?_; refine pz_ HT_ 5 (some 12) #[true, true, true, true, true, true, false, false] ?_; exact nj_ (hJ1_2_3 (.slice Ao19 t961.length co19, .slice Ao18 y964.length co18, .slice Ao17 y967.length co17) _ ⟨(kr_ HO963.out), (krm_ HO966.out (fun _ hk => hk.2)), (krm_ HO969.out (fun _ hk => hk.2)), (bk_ BK960.out), (lb1_ HB.out GE960.out)⟩)
          ·
           skip; refine box_step ?hg (N := 6) ?hd (cs := #[.slice none 0 0, .slice none 0 0, .slice none 0 0, .int .i64 0, .int .i64 0]) (t := 30) ?hr ?_; (case hd => rfl); (case hg => rfl); (case hr => first | (go_simp; done) | (go_simp; rfl)); intro gb970 hg w15 hbox hb; replace HO963 := Aside0.mk (Kd.R_below (kr_ HO963.out) hb); replace HO966 := Aside0.mk (Kd.R_below (kr_ HO966.out) hb); have BK970 := Aside0.mk (hbox); have GW970 := Aside0.mk ((bz_ hg (lb1_ HB.out GE960.out))); have GE970 := Aside0.mk ((bz_ hg (lb1_ HB.out GE960.out))); replace HB := Aside0.mk (below_step (lb1_ HB.out GE960.out) hb); have NB960_970 := Aside0.mk ((by rw [hg]; exact Nat.ne_of_lt (blk_lt (g := gb960) (o := .cells #[.slice none 0 0, .slice none 0 0, .slice none 0 0, .int .i64 0, .int .i64 0] 30 (0, 0)) (bk_ BK960.out)) : gb960 ≠ gb970)); have NB970_960 := Aside0.mk ((by rw [hg]; exact Nat.ne_of_gt (blk_lt (g := gb960) (o := .cells #[.slice none 0 0, .slice none 0 0, .slice none 0 0, .int .i64 0, .int .i64 0] 30 (0, 0)) (bk_ BK960.out)) : gb970 ≠ gb960)); replace BK960 := Aside0.mk (bb_ (bk_ BK960.out) hb); clear hb hbox hg; refine hK.out _ _ trivial (fun hHeld => ?_); clear hK K; refine na_ ?_; exact nj_ (hJ1_2_6 (v962, v965, gb970) _ ⟨(kr_ HO963.out), (kr_ HO966.out), (bk_ BK960.out), (bk_ BK970.out), GW970.out, GE970.out, NB960_970.out, NB970_960.out, (lb2_ HB.out GE960.out GE970.out)⟩)
        ·
         skip; rintro ⟨v965, v968, gb970⟩ w16 ⟨h0_, h1_, h2_, h3_, h4_, h5_, h6_, h7_, h8_⟩; (try dsimp only at h0_ h1_ h2_ h3_ h4_ h5_ h6_ h7_ h8_); have HO966 := Aside0.mk h0_; have HO969 := Aside0.mk h1_; replace BK960 := Aside0.mk h2_; have BK970 := Aside0.mk h3_; have GW970 := Aside0.mk h4_; have GE970 := Aside0.mk h5_; have NB960_970 := Aside0.mk h6_; have NB970_960 := Aside0.mk h7_; replace HB := Aside0.mk h8_; clear h0_ h1_ h2_ h3_ h4_ h5_ h6_ h7_ h8_; have hHeld := trivial; refine nb_ ?_; refine one_ (i := 1) (N := some 8) #[true, true, true, true, true, false, true, false] rfl rfl (one_of HT_.out (by kernel_rfl)) (by decide) (fun K hK => ?_); refine gs_ Try.func87 #[.slice A0 l0.length c0] ?_; (with_reducible refine (impl_Leg_87.calls _ _ l0 t961 _ ?side1 ?side2 A3.out).mono ?_); (case side1 => exact kc_ (Kd.C_below HR0.out HB.out)); (case side2 => exact HC0.out); rintro e w17 ⟨v962, rfl, ho0, hb⟩; refine ⟨_, rfl, ?_⟩; replace HO966 := Aside0.mk (Kd.R_below (kr_ HO966.out) hb); replace HO969 := Aside0.mk (Kd.R_below (kr_ HO969.out) hb); have HO963 := Aside0.mk (Kd.R_lower ho0 (below_size (lb2_ HB.out GE960.out GE970.out))); replace BK960 := Aside0.mk (bb_ (bk_ BK960.out) hb); replace BK970 := Aside0.mk (bb_ (bk_ BK970.out) hb); replace HB := Aside0.mk (below_step (lb2_ HB.out GE960.out GE970.out) hb); (try clear hb); (try clear hb2); (try clear hk); (try clear hi); (try clear ho0); obtain ⟨Ao18, co18, eo18⟩ := Kd.R_slice HO969.out
         (first | subst eo18 | (injection eo18 with f1_ f2_ f3_; have f4_ := f1_.symm; have f5_ := f3_.symm; clear f1_ f2_ f3_; subst f4_; subst f5_))
         obtain ⟨Ao19, co19, eo19⟩ := Kd.R_slice HO966.out
         (first | subst eo19 | (injection eo19 with f1_ f2_ f3_; have f4_ := f1_.symm; have f5_ := f3_.symm; clear f1_ f2_ f3_; subst f4_; subst f5_))
         obtain ⟨Ao20, co20, eo20⟩ := Kd.R_slice HO963.out
         (first | subst eo20 | (injection eo20 with f1_ f2_ f3_; have f4_ := f1_.symm; have f5_ := f3_.symm; clear f1_ f2_ f3_; subst f4_; subst f5_))
         refine hK.out _ _ trivial (fun hHeld => ?_); clear hK K; refine na_ ?_; refine pz_ HT_ 5 (some 12) #[true, true, true, true, true, true, true, false] ?_; exact nj_ (hJ1_2_3_6 (.slice Ao20 t961.length co20, .slice Ao19 y964.length co19, .slice Ao18 y967.length co18, gb970) _ ⟨(kr_ HO963.out), (kr_ HO966.out), (kr_ HO969.out), (bk_ BK960.out), (bk_ BK970.out), GW970.out, GE970.out, NB960_970.out, NB970_960.out, (lb2_ HB.out GE960.out GE970.out)⟩)
       ·
        skip; rintro ⟨v962, v968, gb970⟩ w15 ⟨h0_, h1_, h2_, h3_, h4_, h5_, h6_, h7_, h8_⟩; (try dsimp only at h0_ h1_ h2_ h3_ h4_ h5_ h6_ h7_ h8_); have HO963 := Aside0.mk h0_; have HO969 := Aside0.mk h1_; replace BK960 := Aside0.mk h2_; have BK970 := Aside0.mk h3_; have GW970 := Aside0.mk h4_; have GE970 := Aside0.mk h5_; have NB960_970 := Aside0.mk h6_; have NB970_960 := Aside0.mk h7_; replace HB := Aside0.mk h8_; clear h0_ h1_ h2_ h3_ h4_ h5_ h6_ h7_ h8_; have hHeld := trivial; refine nb_ ?_; refine one_ (i := 2) (N := some 9) #[true, true, true, true, true, false, true, false] rfl rfl (one_of HT_.out (by kernel_rfl)) (by decide) (fun K hK => ?_); refine Kd.R_make_step Kd.bool _ 4 (by rfl) (N := 9) rfl 23 _ _ rfl 8 rfl rfl Try.underlying23 (.bool false) 1 info4 rfl (by decide) (by omega) false (ok := fun _ => True) (okp := fun _ => True) rfl (fun _ hk => hk) trivial (by omega) (by omega) (Below.refl _ _) (Nat.le_refl _) ?_; intro v965 w16 ho17 hb hg_ hnew_; clear hg_ hnew_; replace ho17 := ry_ Ny964.out ho17; replace HO963 := Aside0.mk (Kd.R_below (kr_ HO963.out) hb); have HO966 := Aside0.mk (Kd.R_lower (Kd.R_new' ho17 (Kd.R_lt (kr_ HO969.out))) (below_size (lb2_ HB.out GE960.out GE970.out))); replace HO969 := Aside0.mk (Kd.R_elder' (kr_ HO969.out) (Kd.R_base ho17) hb); replace BK960 := Aside0.mk (bb_ (bk_ BK960.out) hb); replace BK970 := Aside0.mk (bb_ (bk_ BK970.out) hb); replace HB := Aside0.mk (below_step (lb2_ HB.out GE960.out GE970.out) hb); clear hb ho17; obtain ⟨Ao18, co18, eo18⟩ := Kd.R_slice HO969.out
        (first | subst eo18 | (injection eo18 with f1_ f2_ f3_; have f4_ := f1_.symm; have f5_ := f3_.symm; clear f1_ f2_ f3_; subst f4_; subst f5_))
        obtain ⟨Ao19, co19, eo19⟩ := Kd.R_slice HO966.out
        (first | subst eo19 | (injection eo19 with f1_ f2_ f3_; have f4_ := f1_.symm; have f5_ := f3_.symm; clear f1_ f2_ f3_; subst f4_; subst f5_))
        obtain ⟨Ao20, co20, eo20⟩ := Kd.R_slice HO963.out
        (first | subst eo20 | (injection eo20 with f1_ f2_ f3_; have f4_ := f1_.symm; have f5_ := f3_.symm; clear f1_ f2_ f3_; subst f4_; subst f5_))
        refine hK.out _ _ trivial (fun hHeld => ?_); clear hK K; refine na_ ?_; refine pz_ HT_ 5 (some 12) #[true, true, true, true, true, true, true, false] ?_; exact nj_ (hJ1_2_3_6 (.slice Ao20 t961.length co20, .slice Ao19 y964.length co19, .slice Ao18 y967.length co18, gb970) _ ⟨(kr_ HO963.out), (krm_ HO966.out (fun _ hk => hk.2)), (krm_ HO969.out (fun _ hk => hk.2)), (bk_ BK960.out), (bk_ BK970.out), GW970.out, GE970.out, NB960_970.out, NB970_960.out, (lb2_ HB.out GE960.out GE970.out)⟩)
      ·
       skip
       rintro ⟨v962, v965, gb970⟩ w15 ⟨h0_, h1_, h2_, h3_, h4_, h5_, h6_, h7_, h8_⟩
       (try dsimp only at h0_ h1_ h2_ h3_ h4_ h5_ h6_ h7_ h8_)
       have HO963 := Aside0.mk h0_
       have HO966 := Aside0.mk h1_
       replace BK960 := Aside0.mk h2_
       have BK970 := Aside0.mk h3_
       have GW970 := Aside0.mk h4_
       have GE970 := Aside0.mk h5_
       have NB960_970 := Aside0.mk h6_
       have NB970_960 := Aside0.mk h7_
       replace HB := Aside0.mk h8_
       clear h0_ h1_ h2_ h3_ h4_ h5_ h6_ h7_ h8_
       have hHeld := trivial
       refine nb_ ?_
       refine one_ (i := 3) (N := some 10) #[true, true, true, true, true, false, true, false] rfl rfl (one_of HT_.out (by kernel_rfl)) (by decide) (fun K hK => ?_)
       refine Kd.R_make_step Kd.bool _ 4 (by rfl) (N := 10) rfl 23 _ _ rfl 8 rfl rfl Try.underlying23 (.bool false) 1 info4 rfl (by decide) (by omega) false (ok := fun _ => True) (okp := fun _ => True) rfl (fun _ hk => hk) trivial (by omega) (by omega) (Below.refl _ _) (Nat.le_refl _) ?_
       intro v968 w16 ho17 hb hg_ hnew_
       clear hg_ hnew_
       replace ho17 := ry_ Ny967.out ho17
       replace HO963 := Aside0.mk (Kd.R_below (kr_ HO963.out) hb)
       have HO969 := Aside0.mk (Kd.R_lower (Kd.R_new' ho17 (Kd.R_lt (kr_ HO966.out))) (below_size (lb2_ HB.out GE960.out GE970.out)))
       replace HO966 := Aside0.mk (Kd.R_elder' (kr_ HO966.out) (Kd.R_base ho17) hb)
       replace BK960 := Aside0.mk (bb_ (bk_ BK960.out) hb)
       replace BK970 := Aside0.mk (bb_ (bk_ BK970.out) hb)
       replace HB := Aside0.mk (below_step (lb2_ HB.out GE960.out GE970.out) hb)
       clear hb ho17
       obtain ⟨Ao18, co18, eo18⟩ := Kd.R_slice HO969.out
       (first | subst eo18 | (injection eo18 with f1_ f2_ f3_; have f4_ := f1_.symm; have f5_ := f3_.symm; clear f1_ f2_ f3_; subst f4_; subst f5_))
       obtain ⟨Ao19, co19, eo19⟩ := Kd.R_slice HO966.out
       (first | subst eo19 | (injection eo19 with f1_ f2_ f3_; have f4_ := f1_.symm; have f5_ := f3_.symm; clear f1_ f2_ f3_; subst f4_; subst f5_))
       obtain ⟨Ao20, co20, eo20⟩ := Kd.R_slice HO963.out
       (first | subst eo20 | (injection eo20 with f1_ f2_ f3_; have f4_ := f1_.symm; have f5_ := f3_.symm; clear f1_ f2_ f3_; subst f4_; subst f5_))
       refine hK.out _ _ trivial (fun hHeld => ?_)
       clear hK K
       refine na_ ?_
       refine pz_ HT_ 5 (some 12) #[true, true, true, true, true, true, true, false] ?_
       exact nj_ (hJ1_2_3_6 (.slice Ao20 t961.length co20, .slice Ao19 y964.length co19, .slice Ao18 y967.length co18, gb970) _ ⟨(kr_ HO963.out), (krm_ HO966.out (fun _ hk => hk.2)), (krm_ HO969.out (fun _ hk => hk.2)), (bk_ BK960.out), (bk_ BK970.out), GW970.out, GE970.out, NB960_970.out, NB970_960.out, (lb2_ HB.out GE960.out GE970.out)⟩)
     ·
      skip
      rintro ⟨v962, v965, v968⟩ w19 ⟨h0_, h1_, h2_, h3_, h4_⟩
      (try dsimp only at h0_ h1_ h2_ h3_ h4_)
      have HO963 := Aside0.mk h0_
      have HO966 := Aside0.mk h1_
      have HO969 := Aside0.mk h2_
      replace BK960 := Aside0.mk h3_
      replace HB := Aside0.mk h4_
      clear h0_ h1_ h2_ h3_ h4_
      have hHeld := trivial
      obtain ⟨Ao20, co20, eo20⟩ := Kd.R_slice HO969.out
      (first | subst eo20 | (injection eo20 with f1_ f2_ f3_; have f4_ := f1_.symm; have f5_ := f3_.symm; clear f1_ f2_ f3_; subst f4_; subst f5_))
      obtain ⟨Ao21, co21, eo21⟩ := Kd.R_slice HO966.out
      (first | subst eo21 | (injection eo21 with f1_ f2_ f3_; have f4_ := f1_.symm; have f5_ := f3_.symm; clear f1_ f2_ f3_; subst f4_; subst f5_))
      obtain ⟨Ao22, co22, eo22⟩ := Kd.R_slice HO963.out
      (first | subst eo22 | (injection eo22 with f1_ f2_ f3_; have f4_ := f1_.symm; have f5_ := f3_.symm; clear f1_ f2_ f3_; subst f4_; subst f5_))
      refine nb_ ?_
      refine one_ (i := 6) (N := some 6) #[true, true, true, true, true, true, true, false] rfl rfl (one_of HT_.out (by kernel_rfl)) (by decide) (fun K hK => ?_)
      refine box_step ?hg (N := 6) ?hd (cs := #[.slice none 0 0, .slice none 0 0, .slice none 0 0, .int .i64 0, .int .i64 0]) (t := 30) ?hr ?_; (case hd => rfl); (case hg => rfl); (case hr => first | (go_simp; done) | (go_simp; rfl))
      intro gb970 hg w23 hbox hb
      replace HO963 := Aside0.mk (Kd.R_below (kr_ HO963.out) hb)
      replace HO966 := Aside0.mk (Kd.R_below (kr_ HO966.out) hb)
      replace HO969 := Aside0.mk (Kd.R_below (kr_ HO969.out) hb)
      have BK970 := Aside0.mk (hbox)
      have GW970 := Aside0.mk ((bz_ hg (lb1_ HB.out GE960.out)))
      have GE970 := Aside0.mk ((bz_ hg (lb1_ HB.out GE960.out)))
      replace HB := Aside0.mk (below_step (lb1_ HB.out GE960.out) hb)
      have NB960_970 := Aside0.mk ((by rw [hg]; exact Nat.ne_of_lt (blk_lt (g := gb960) (o := .cells #[.slice none 0 0, .slice none 0 0, .slice none 0 0, .int .i64 0, .int .i64 0] 30 (0, 0)) (bk_ BK960.out)) : gb960 ≠ gb970))
      have NB970_960 := Aside0.mk ((by rw [hg]; exact Nat.ne_of_gt (blk_lt (g := gb960) (o := .cells #[.slice none 0 0, .slice none 0 0, .slice none 0 0, .int .i64 0, .int .i64 0] 30 (0, 0)) (bk_ BK960.out)) : gb970 ≠ gb960))
      replace BK960 := Aside0.mk (bb_ (bk_ BK960.out) hb)
      clear hb hbox hg
      refine hK.out _ _ trivial (fun hHeld => ?_)
      clear hK K
      refine na_ ?_
      exact nj_ (hJ1_2_3_6 (.slice Ao22 t961.length co22, .slice Ao21 y964.length co21, .slice Ao20 y967.length co20, gb970) _ ⟨(kr_ HO963.out), (kr_ HO966.out), (kr_ HO969.out), (bk_ BK960.out), (bk_ BK970.out), GW970.out, GE970.out, NB960_970.out, NB970_960.out, (lb2_ HB.out GE960.out GE970.out)⟩)
    rintro ⟨v962, v965, v968, gb970⟩ w20 ⟨h0_, h1_, h2_, h3_, h4_, h5_, h6_, h7_, h8_, h9_⟩
    (try dsimp only at h0_ h1_ h2_ h3_ h4_ h5_ h6_ h7_ h8_ h9_)
    have HO963 := Aside0.mk h0_
    have HO966 := Aside0.mk h1_
    have HO969 := Aside0.mk h2_
    replace BK960 := Aside0.mk h3_
    have BK970 := Aside0.mk h4_
    have GW970 := Aside0.mk h5_
    have GE970 := Aside0.mk h6_
    have NB960_970 := Aside0.mk h7_
    have NB970_960 := Aside0.mk h8_
    replace HB := Aside0.mk h9_
    clear h0_ h1_ h2_ h3_ h4_ h5_ h6_ h7_ h8_ h9_
    have hHeld := trivial
    obtain ⟨Ao21, co21, eo21⟩ := Kd.R_slice HO969.out
    (first | subst eo21 | (injection eo21 with f1_ f2_ f3_; have f4_ := f1_.symm; have f5_ := f3_.symm; clear f1_ f2_ f3_; subst f4_; subst f5_))
    obtain ⟨Ao22, co22, eo22⟩ := Kd.R_slice HO966.out
    (first | subst eo22 | (injection eo22 with f1_ f2_ f3_; have f4_ := f1_.symm; have f5_ := f3_.symm; clear f1_ f2_ f3_; subst f4_; subst f5_))
    obtain ⟨Ao23, co23, eo23⟩ := Kd.R_slice HO963.out
    (first | subst eo23 | (injection eo23 with f1_ f2_ f3_; have f4_ := f1_.symm; have f5_ := f3_.symm; clear f1_ f2_ f3_; subst f4_; subst f5_))
    refine nb_ ?_
    refine one_ (i := 7) (N := none) #[true, true, true, true, true, true, true, true] rfl rfl (one_of HT_.out (by kernel_rfl)) (by decide) (fun K hK => ?_)
    have hs24 : w20.cell? ⟨gb970, 0, none⟩ = some (.slice none 0 0) := (blk_cell BK970.out 0).trans rfl
    have hfs24 := blk_frozen BK970.out 0
    have hns24_0 := NB960_970.out
    have hms24_0 := NB970_960.out
    have hs25 : w20.cell? ⟨gb970, 1, none⟩ = some (.slice none 0 0) := (blk_cell BK970.out 1).trans rfl
    have hfs25 := blk_frozen BK970.out 1
    have hns25_0 := NB960_970.out
    have hms25_0 := NB970_960.out
    have hs26 : w20.cell? ⟨gb970, 2, none⟩ = some (.slice none 0 0) := (blk_cell BK970.out 2).trans rfl
    have hfs26 := blk_frozen BK970.out 2
    have hns26_0 := NB960_970.out
    have hms26_0 := NB970_960.out
    have hs27 : w20.cell? ⟨gb970, 3, none⟩ = some (.int .i64 0) := (blk_cell BK970.out 3).trans rfl
    have hfs27 := blk_frozen BK970.out 3
    have hns27_0 := NB960_970.out
    have hms27_0 := NB970_960.out
    have hs28 : w20.cell? ⟨gb970, 4, none⟩ = some (.int .i64 0) := (blk_cell BK970.out 4).trans rfl
    have hfs28 := blk_frozen BK970.out 4
    have hns28_0 := NB960_970.out
    have hms28_0 := NB970_960.out
    refine skip_ (w1 := ?_) (by rfl) rfl ?_ ?_
    rotate_left
    ·
     go_simp
     rfl
    refine hK.out _ _ trivial (fun hHeld => ?_)
    clear hK K
    refine done_ (done_of HT_.out (by kernel_rfl)) ?_
    have n0_ : Aside0 (Kd.R k37 37 (((((w20.setCell ⟨gb970, 0, none⟩ (.slice Ao23 t961.length co23)).setCell ⟨gb970, 1, none⟩ (.slice Ao22 y964.length co22)).setCell ⟨gb970, 2, none⟩ (.slice Ao21 y967.length co21)).setCell ⟨gb970, 3, none⟩ (.int .i64 0)).setCell ⟨gb970, 4, none⟩ (.int .i64 a1)) w.heap.size (fun _ => True) (.slice Ao23 t961.length co23) t961) := ⟨by (with_reducible repeat (first | apply Kd.R_alloc | apply Kd.R_drewN | apply Kd.R_drew)); exact Kd.R_mono (Kd.R_far (p := ⟨gb970, 4, none⟩) (Kd.R_far (p := ⟨gb970, 3, none⟩) (Kd.R_far (p := ⟨gb970, 2, none⟩) (Kd.R_far (p := ⟨gb970, 1, none⟩) (Kd.R_far (p := ⟨gb970, 0, none⟩) (Kd.R_types HO963.out BK970.out (by decide)) (fun _ hk => hk.2) (.slice Ao23 t961.length co23)) (fun _ hk => hk.2) (.slice Ao22 y964.length co22)) (fun _ hk => hk.2) (.slice Ao21 y967.length co21)) (fun _ hk => hk.2) (.int .i64 0)) (fun _ hk => hk.2) (.int .i64 a1)) (fun _ hk => trivial)⟩
    have n1_ : Aside0 (Kd.R Kd.bool 4 (((((w20.setCell ⟨gb970, 0, none⟩ (.slice Ao23 t961.length co23)).setCell ⟨gb970, 1, none⟩ (.slice Ao22 y964.length co22)).setCell ⟨gb970, 2, none⟩ (.slice Ao21 y967.length co21)).setCell ⟨gb970, 3, none⟩ (.int .i64 0)).setCell ⟨gb970, 4, none⟩ (.int .i64 a1)) w.heap.size (fun k_ => some k_ ≠ (.slice Ao21 y967.length co21 : Value).ownBlock) (.slice Ao22 y964.length co22) y964) := ⟨by (with_reducible repeat (first | apply Kd.R_alloc | apply Kd.R_drewN | apply Kd.R_drew)); exact Kd.R_mono (Kd.R_far (p := ⟨gb970, 4, none⟩) (Kd.R_far (p := ⟨gb970, 3, none⟩) (Kd.R_far (p := ⟨gb970, 2, none⟩) (Kd.R_far (p := ⟨gb970, 1, none⟩) (Kd.R_far (p := ⟨gb970, 0, none⟩) (Kd.R_types HO966.out BK970.out (by decide)) (fun _ hk => hk.2) (.slice Ao23 t961.length co23)) (fun _ hk => hk.2) (.slice Ao22 y964.length co22)) (fun _ hk => hk.2) (.slice Ao21 y967.length co21)) (fun _ hk => hk.2) (.int .i64 0)) (fun _ hk => hk.2) (.int .i64 a1)) (fun _ hk => hk.1)⟩
    have n2_ : Aside0 (Kd.R Kd.bool 4 (((((w20.setCell ⟨gb970, 0, none⟩ (.slice Ao23 t961.length co23)).setCell ⟨gb970, 1, none⟩ (.slice Ao22 y964.length co22)).setCell ⟨gb970, 2, none⟩ (.slice Ao21 y967.length co21)).setCell ⟨gb970, 3, none⟩ (.int .i64 0)).setCell ⟨gb970, 4, none⟩ (.int .i64 a1)) w.heap.size (fun k_ => some k_ ≠ (.slice Ao22 y964.length co22 : Value).ownBlock) (.slice Ao21 y967.length co21) y967) := ⟨by (with_reducible repeat (first | apply Kd.R_alloc | apply Kd.R_drewN | apply Kd.R_drew)); exact Kd.R_mono (Kd.R_far (p := ⟨gb970, 4, none⟩) (Kd.R_far (p := ⟨gb970, 3, none⟩) (Kd.R_far (p := ⟨gb970, 2, none⟩) (Kd.R_far (p := ⟨gb970, 1, none⟩) (Kd.R_far (p := ⟨gb970, 0, none⟩) (Kd.R_types HO969.out BK970.out (by decide)) (fun _ hk => hk.2) (.slice Ao23 t961.length co23)) (fun _ hk => hk.2) (.slice Ao22 y964.length co22)) (fun _ hk => hk.2) (.slice Ao21 y967.length co21)) (fun _ hk => hk.2) (.int .i64 0)) (fun _ hk => hk.2) (.int .i64 a1)) (fun _ hk => hk.1)⟩
    have n3_ : Aside0 ((((((w20.setCell ⟨gb970, 0, none⟩ (.slice Ao23 t961.length co23)).setCell ⟨gb970, 1, none⟩ (.slice Ao22 y964.length co22)).setCell ⟨gb970, 2, none⟩ (.slice Ao21 y967.length co21)).setCell ⟨gb970, 3, none⟩ (.int .i64 0)).setCell ⟨gb970, 4, none⟩ (.int .i64 a1)).heap[gb960]? = some (.cells #[.slice none 0 0, .slice none 0 0, .slice none 0 0, .int .i64 0, .int .i64 0] 30 (0, 0))) := ⟨by (with_reducible repeat (first | refine blk_drewN ?_ _ | refine blk_drew ?_ | refine blk_alloc ?_ _)); refine blk_far ?_ NB960_970.out _; (with_reducible repeat (first | refine blk_drewN ?_ _ | refine blk_drew ?_ | refine blk_alloc ?_ _)); refine blk_far ?_ NB960_970.out _; (with_reducible repeat (first | refine blk_drewN ?_ _ | refine blk_drew ?_ | refine blk_alloc ?_ _)); refine blk_far ?_ NB960_970.out _; (with_reducible repeat (first | refine blk_drewN ?_ _ | refine blk_drew ?_ | refine blk_alloc ?_ _)); refine blk_far ?_ NB960_970.out _; (with_reducible repeat (first | refine blk_drewN ?_ _ | refine blk_drew ?_ | refine blk_alloc ?_ _)); refine blk_far ?_ NB960_970.out _; (with_reducible repeat (first | refine blk_drewN ?_ _ | refine blk_drew ?_ | refine blk_alloc ?_ _)); exact BK960.out⟩
    have n4_ : Aside0 ((((((w20.setCell ⟨gb970, 0, none⟩ (.slice Ao23 t961.length co23)).setCell ⟨gb970, 1, none⟩ (.slice Ao22 y964.length co22)).setCell ⟨gb970, 2, none⟩ (.slice Ao21 y967.length co21)).setCell ⟨gb970, 3, none⟩ (.int .i64 0)).setCell ⟨gb970, 4, none⟩ (.int .i64 a1)).heap[gb970]? = some (.cells #[.slice Ao23 t961.length co23, .slice Ao22 y964.length co22, .slice Ao21 y967.length co21, .int .i64 0, .int .i64 a1] 30 (0, 0))) := ⟨by (with_reducible repeat (first | refine blk_drewN ?_ _ | refine blk_drew ?_ | refine blk_alloc ?_ _)); refine blk_put (cs := #[.slice Ao23 t961.length co23, .slice Ao22 y964.length co22, .slice Ao21 y967.length co21, .int .i64 0, .int .i64 0]) ?_ 4 _ rfl; (with_reducible repeat (first | refine blk_drewN ?_ _ | refine blk_drew ?_ | refine blk_alloc ?_ _)); refine blk_put (cs := #[.slice Ao23 t961.length co23, .slice Ao22 y964.length co22, .slice Ao21 y967.length co21, .int .i64 0, .int .i64 0]) ?_ 3 _ rfl; (with_reducible repeat (first | refine blk_drewN ?_ _ | refine blk_drew ?_ | refine blk_alloc ?_ _)); refine blk_put (cs := #[.slice Ao23 t961.length co23, .slice Ao22 y964.length co22, .slice none 0 0, .int .i64 0, .int .i64 0]) ?_ 2 _ rfl; (with_reducible repeat (first | refine blk_drewN ?_ _ | refine blk_drew ?_ | refine blk_alloc ?_ _)); refine blk_put (cs := #[.slice Ao23 t961.length co23, .slice none 0 0, .slice none 0 0, .int .i64 0, .int .i64 0]) ?_ 1 _ rfl; (with_reducible repeat (first | refine blk_drewN ?_ _ | refine blk_drew ?_ | refine blk_alloc ?_ _)); refine blk_put (cs := #[.slice none 0 0, .slice none 0 0, .slice none 0 0, .int .i64 0, .int .i64 0]) ?_ 0 _ rfl; (with_reducible repeat (first | refine blk_drewN ?_ _ | refine blk_drew ?_ | refine blk_alloc ?_ _)); exact BK970.out⟩
    have n5_ : Aside0 (Below w.heap.size w (((((w20.setCell ⟨gb970, 0, none⟩ (.slice Ao23 t961.length co23)).setCell ⟨gb970, 1, none⟩ (.slice Ao22 y964.length co22)).setCell ⟨gb970, 2, none⟩ (.slice Ao21 y967.length co21)).setCell ⟨gb970, 3, none⟩ (.int .i64 0)).setCell ⟨gb970, 4, none⟩ (.int .i64 a1))) := ⟨lb2_ HB.out GE960.out GE970.out⟩
    (try clear HO963)
    (try clear HO966)
    (try clear HO969)
    (try clear BK960)
    (try clear BK970)
    (try clear HB)
    generalize (((((w20.setCell ⟨gb970, 0, none⟩ (.slice Ao23 t961.length co23)).setCell ⟨gb970, 1, none⟩ (.slice Ao22 y964.length co22)).setCell ⟨gb970, 2, none⟩ (.slice Ao21 y967.length co21)).setCell ⟨gb970, 3, none⟩ (.int .i64 0)).setCell ⟨gb970, 4, none⟩ (.int .i64 a1)) = w29 at n0_ n1_ n2_ n3_ n4_ n5_ ⊢
    have HO963 := n0_
    have HO966 := n1_
    have HO969 := n2_
    have BK960 := n3_
    have BK970 := n4_
    have HB := n5_
    clear n0_ n1_ n2_ n3_ n4_ n5_
    have hnb30 := NB970_960.out
    have hnc30 := NB960_970.out
    obtain ⟨hcz31_0, hcz31_1, hcz31_2, hcz31_3, hcz31_4⟩ := cz5_ BK970.out
    obtain ⟨hfz31_0, hfz31_1, hfz31_2, hfz31_3, hfz31_4⟩ := fz5_ BK970.out
    have p6 : 0 ≤ (0 : Int) := (by omega)
    have q6 : (0 : Int) < ((y964.length : Int) : Int) := dt_
    have qi6 : (0 < y964.length) = True := eq_true (by omega)
    obtain ⟨go6, co6, eo6, gb6, gl6, cl6, HG6⟩ := Kd.R_form HO966.out (by omega)
    (first | cases eo6 | (injection eo6 with ea_ en_ ec_; (first | subst ea_ | (injection ea_ with ea_; subst ea_)); subst ec_; clear en_))
    have GB6 := Aside0.mk gb6
    have GG6 := Aside0.mk HG6
    clear gb6 gl6 HG6
    obtain ⟨hx6_0, hf6_0⟩ := Kd.R_celln false HO966.out (0 : Int) p6 q6
    (try rw [show ((0 : Int)).toNat = 0 from rfl] at hx6_0)
    (try simp only [Nat.reduceMul, Nat.zero_mul, Nat.zero_add, Nat.reduceAdd] at hx6_0)
    (try rw [show ((0 : Int)).toNat = 0 from rfl] at hf6_0)
    (try simp only [Nat.reduceMul, Nat.zero_mul, Nat.zero_add, Nat.reduceAdd] at hf6_0)
    replace p6 := eq_true p6
    replace q6 := eq_true q6
    obtain ⟨hy32_, hz32_⟩ := Kd.R_celln false HO966.out (0 : Int) (by omega) (dt_)
    (try simp only [Int.reduceToNat, Int.toNat_zero, Int.toNat_ofNat, Nat.reduceMul, Nat.zero_mul, Nat.zero_add] at hy32_ hz32_)
    (try rw [show ((0 : Int)).toNat = 0 from rfl] at hy32_)
    (try rw [show ((0 : Int)).toNat = 0 from rfl] at hz32_)
    have HP32 := Kd.R_putg HO966.out (0 : Int) true
    try go_wp2_with (first | ((with_reducible refine gate_store (t := 4) (p := 15) rfl ?_); refine store_event (t := 4) (p := 15) (v := ?vo_w33) (w1 := (w29.setCell ⟨go6, (0 : Int).toNat, none⟩ (.bool true))) ?hg ?ho ?hn ?hr ?_; (case ho => rfl); (case hg => rfl); (case hn => rfl); (case hr => first | (go_simp; done) | (go_simp; rfl)); intro w33 hw; have hg : w29.grownBy w33 (some go6) := (by rw [hw]; exact HP32.2); have hp_ : Kd.R Kd.bool 4 w33 w.heap.size (fun k_ => some k_ ≠ (.slice Ao21 y967.length co21 : Value).ownBlock) (.slice (some ⟨go6, 0, none⟩) y964.length co22) y971 := (by rw [hw, Ny971.out]; exact HP32.1); clear HP32; replace BK960 := Aside0.mk (blk_grown (g := gb960) (o := .cells #[.slice none 0 0, .slice none 0 0, .slice none 0 0, .int .i64 0, .int .i64 0] 30 (0, 0)) (bk_ BK960.out) hg (Kd.R_ne HO966.out BK960.out (by decide))); replace HO963 := Aside0.mk (Kd.R_over' (v := (.slice (some ⟨go6, 0, none⟩) y964.length co22)) (kr_ HO963.out) (Kd.R_typed HO966.out) (by decide) hg); replace HO969 := Aside0.mk (Kd.R_after (v := (.slice (some ⟨go6, 0, none⟩) y964.length co22)) (v1 := (.slice (some ⟨go6, 0, none⟩) y964.length co22)) (ok := (fun _ => True)) (krm_ HO969.out (fun _ hk => ⟨trivial, hk⟩)) hg (.inl rfl)); replace BK970 := Aside0.mk (blk_grown (g := gb970) (o := .cells #[.slice Ao23 t961.length co23, .slice (some ⟨go6, 0, none⟩) y964.length co22, .slice Ao21 y967.length co21, .int .i64 0, .int .i64 a1] 30 (0, 0)) (bk_ BK970.out) hg (Kd.R_ne HO966.out BK970.out (by decide))); replace HO966 := Aside0.mk (hp_); replace HB := Aside0.mk ((by rw [hw]; exact below_set (HB.out) GB6.out : Below w.heap.size w w33)); clear hg hw hp_; obtain ⟨hcz34_0, hcz34_1, hcz34_2, hcz34_3, hcz34_4⟩ := cz5_ BK970.out; obtain ⟨hfz34_0, hfz34_1, hfz34_2, hfz34_3, hfz34_4⟩ := fz5_ BK970.out) | ((with_reducible refine gate_callee (f := 18) rfl ?_); refine goesL_ (some 17) rfl rfl Try.func18 (by kernel_rfl) rfl #[.agg #[.slice Ao23 t961.length co23, .slice (some ⟨go6, 0, none⟩) y971.length co22, .slice Ao21 y967.length co21, .int .i64 0, .int .i64 a1]] rfl (by (try simp only [List.map_toArray, List.map_cons, List.map_nil]); first | done | (rw [show y971.length = y964.length from (Kd.R_reads' HO966.out).1.symm] <;> rfl) | rfl | (simp only [List.length_drop, List.length_take]; rfl)) ?_; (with_reducible refine (impl_IsExploration.calls k _ _ t961 _ _ y971 _ _ y967 0 a1 true _ ?side1 ?side2 ?side3 ?side4 ?side5 ?side6 A7.out).mono ?_); (case side1 => exact kc_ (Kd.R_reads' HO963.out).2.2); (case side2 => exact (Kd.R_reads' HO963.out).2.1); (case side3 => exact kc_ (Kd.R_reads' HO966.out).2.2); (case side4 => rw [show y971.length = y964.length from (Kd.R_reads' HO966.out).1.symm]; exact (Kd.R_reads' HO966.out).2.1); (case side5 => exact kc_ (Kd.R_reads' HO969.out).2.2); (case side6 => exact (Kd.R_reads' HO969.out).2.1); rintro e w35 ⟨rfl, hb⟩; refine ⟨_, rfl, ?_⟩; replace HO963 := Aside0.mk (Kd.R_below (kr_ HO963.out) hb); replace HO966 := Aside0.mk (Kd.R_below (kr_ HO966.out) hb); replace HO969 := Aside0.mk (Kd.R_below (kr_ HO969.out) hb); replace BK960 := Aside0.mk (bb_ (bk_ BK960.out) hb); replace BK970 := Aside0.mk (bb_ (bk_ BK970.out) hb); replace HB := Aside0.mk (below_step (lb2_ HB.out GE960.out GE970.out) hb); (try clear hb); (try clear hb2); (try clear hk); (try clear hi); obtain ⟨hcz36_0, hcz36_1, hcz36_2, hcz36_3, hcz36_4⟩ := cz5_ BK970.out; obtain ⟨hfz36_0, hfz36_1, hfz36_2, hfz36_3, hfz36_4⟩ := fz5_ BK970.out; obtain ⟨hcz37_0, hcz37_1, hcz37_2, hcz37_3, hcz37_4⟩ := cz5_ BK960.out; obtain ⟨hfz37_0, hfz37_1, hfz37_2, hfz37_3, hfz37_4⟩ := fz5_ BK960.out))
    refine bodyPost_ret (results_ct rfl _ _ gb960 30 #[.slice Ao23 t961.length co23, .slice (some ⟨go6, 0, none⟩) y964.length co22, .slice Ao21 y967.length co21, .int .i64 0, .int .i64 a1] (0, 0) _ rfl (by (with_reducible repeat (first | refine blk_drewN ?_ _ | refine blk_drew ?_ | refine blk_alloc ?_ _)); refine blk_put (cs := #[.slice Ao23 t961.length co23, .slice (some ⟨go6, 0, none⟩) y964.length co22, .slice Ao21 y967.length co21, .int .i64 0, .int .i64 0]) ?_ 4 _ rfl; (with_reducible repeat (first | refine blk_drewN ?_ _ | refine blk_drew ?_ | refine blk_alloc ?_ _)); refine blk_put (cs := #[.slice Ao23 t961.length co23, .slice (some ⟨go6, 0, none⟩) y964.length co22, .slice Ao21 y967.length co21, .int .i64 0, .int .i64 0]) ?_ 3 _ rfl; (with_reducible repeat (first | refine blk_drewN ?_ _ | refine blk_drew ?_ | refine blk_alloc ?_ _)); refine blk_put (cs := #[.slice Ao23 t961.length co23, .slice (some ⟨go6, 0, none⟩) y964.length co22, .slice none 0 0, .int .i64 0, .int .i64 0]) ?_ 2 _ rfl; (with_reducible repeat (first | refine blk_drewN ?_ _ | refine blk_drew ?_ | refine blk_alloc ?_ _)); refine blk_put (cs := #[.slice Ao23 t961.length co23, .slice none 0 0, .slice none 0 0, .int .i64 0, .int .i64 0]) ?_ 1 _ rfl; (with_reducible repeat (first | refine blk_drewN ?_ _ | refine blk_drew ?_ | refine blk_alloc ?_ _)); refine blk_put (cs := #[.slice none 0 0, .slice none 0 0, .slice none 0 0, .int .i64 0, .int .i64 0]) ?_ 0 _ rfl; (with_reducible repeat (first | refine blk_drewN ?_ _ | refine blk_drew ?_ | refine blk_alloc ?_ _)); exact BK960.out) Try.underlying30 rfl (by kernel_rfl)) rfl ?_
    exact ⟨_, _, _, rr_, by (with_reducible repeat (first | apply Kd.R_alloc | apply Kd.R_drewN | apply Kd.R_drew)); exact Kd.R_mono (Kd.R_far (p := ⟨gb960, 4, none⟩) (Kd.R_far (p := ⟨gb960, 3, none⟩) (Kd.R_far (p := ⟨gb960, 2, none⟩) (Kd.R_far (p := ⟨gb960, 1, none⟩) (Kd.R_far (p := ⟨gb960, 0, none⟩) (Kd.R_types HO963.out BK960.out (by decide)) (fun _ hk => hk.2) (.slice Ao23 t961.length co23)) (fun _ hk => hk.2) (.slice (some ⟨go6, 0, none⟩) y964.length co22)) (fun _ hk => hk.2) (.slice Ao21 y967.length co21)) (fun _ hk => hk.2) (.int .i64 0)) (fun _ hk => hk.2) (.int .i64 a1)) (fun _ hk => trivial), by (with_reducible repeat (first | apply Kd.R_alloc | apply Kd.R_drewN | apply Kd.R_drew)); exact Kd.R_mono (Kd.R_far (p := ⟨gb960, 4, none⟩) (Kd.R_far (p := ⟨gb960, 3, none⟩) (Kd.R_far (p := ⟨gb960, 2, none⟩) (Kd.R_far (p := ⟨gb960, 1, none⟩) (Kd.R_far (p := ⟨gb960, 0, none⟩) (Kd.R_types HO966.out BK960.out (by decide)) (fun _ hk => hk.2) (.slice Ao23 t961.length co23)) (fun _ hk => hk.2) (.slice (some ⟨go6, 0, none⟩) y964.length co22)) (fun _ hk => hk.2) (.slice Ao21 y967.length co21)) (fun _ hk => hk.2) (.int .i64 0)) (fun _ hk => hk.2) (.int .i64 a1)) (fun _ hk => hk.1), by (with_reducible repeat (first | apply Kd.R_alloc | apply Kd.R_drewN | apply Kd.R_drew)); exact Kd.R_mono (Kd.R_far (p := ⟨gb960, 4, none⟩) (Kd.R_far (p := ⟨gb960, 3, none⟩) (Kd.R_far (p := ⟨gb960, 2, none⟩) (Kd.R_far (p := ⟨gb960, 1, none⟩) (Kd.R_far (p := ⟨gb960, 0, none⟩) (Kd.R_types HO969.out BK960.out (by decide)) (fun _ hk => hk.2) (.slice Ao23 t961.length co23)) (fun _ hk => hk.2) (.slice (some ⟨go6, 0, none⟩) y964.length co22)) (fun _ hk => hk.2) (.slice Ao21 y967.length co21)) (fun _ hk => hk.2) (.int .i64 0)) (fun _ hk => hk.2) (.int .i64 a1)) (fun _ hk => hk.1.2), lb2_ HB.out GE960.out GE970.out⟩
   ·
    replace c8 := Bool.eq_false_iff.mpr c8
    subst c8
    have H1 : (some (([] : List (S37)), ([] : List Bool), ([] : List Bool), 0, 0, false)) = some (r1, r2, r3, r4, r5, r6) := by rw [if_neg (show ¬ (false = true) by decide)] at H; exact H
    clear H
    have H := H1
    clear H1
    simp only [Option.some.injEq, Prod.mk.injEq] at H
    obtain ⟨rfl, rfl, rfl, rfl, rfl, rfl⟩ := H
    go_enter Try.func32, Try.ntmps32
    try go_wp2_with (first | ((with_reducible refine gate_dst (N := 4) rfl ?_); refine box_event ?hg (N := 4) ?hd (cs := #[.slice none 0 0, .slice none 0 0, .slice none 0 0, .int .i64 0, .int .i64 0]) (t := 30) ?hr ?_; (case hd => rfl); (case hg => rfl); (case hr => first | (go_simp; done) | (go_simp; rfl)); intro gb960 hg w38 hbox hb; have BK960 := Aside0.mk (hbox); have GW960 := Aside0.mk ((bz_ hg (lb0_ HB.out))); have GE960 := Aside0.mk ((bz_ hg (lb0_ HB.out))); replace HB := Aside0.mk (below_step (lb0_ HB.out) hb); clear hb hbox hg))
    replace BK960 := Aside0.mk (blk_drew BK960.out)
    replace HB := Aside0.mk (below_drew1 HB.out)
    refine start_ (n := 8) (S := fun w' => True) (ds := []) #[false, false, false, false, false, false, false, false] (by kernel_rfl) rfl rfl trivial (fun hHeld => ?_); refine with_tabW impl_StartExploration.tab1 impl_StartExploration.bits1 (fun HT_ HW_ => ?_)
    generalize w38.drew = w39 at BK960 HB hHeld ⊢
    refine pz_ HT_ 0 (some 7) #[true, false, false, false, false, false, false, false] ?_
    refine pz_ HT_ 4 (some 11) #[true, false, false, false, true, false, false, false] ?_
    refine join_ (σ := Value × Value × Value × Nat) 1 #[true, true, true, true, true, true, true, false] (fun s_ => [(8, s_.1), (9, s_.2.1), (10, s_.2.2.1), (6, .pointer (some ⟨s_.2.2.2, 0, none⟩)), (12, .agg #[s_.1, s_.2.1, s_.2.2.1, .int .i64 0, .int .i64 a1])]) (fun s_ w' => (Kd.R k37 37 w' w.heap.size (fun _ => True) s_.1 t961) ∧ (Kd.R Kd.bool 4 w' w.heap.size (fun k_ => some k_ ≠ (s_.2.2.1 : Value).ownBlock) s_.2.1 y964) ∧ (Kd.R Kd.bool 4 w' w.heap.size (fun k_ => some k_ ≠ (s_.2.1 : Value).ownBlock) s_.2.2.1 y967) ∧ (w'.heap[gb960]? = some (.cells #[.slice none 0 0, .slice none 0 0, .slice none 0 0, .int .i64 0, .int .i64 0] 30 (0, 0))) ∧ (w'.heap[s_.2.2.2]? = some (.cells #[.slice none 0 0, .slice none 0 0, .slice none 0 0, .int .i64 0, .int .i64 0] 30 (0, 0))) ∧ (w.heap.size ≤ s_.2.2.2) ∧ (w.heap.size ≤ s_.2.2.2) ∧ (gb960 ≠ s_.2.2.2) ∧ (s_.2.2.2 ≠ gb960) ∧ (Below w.heap.size w w')) ?_ ?_
    rotate_left
    ·
     intro hJ1_2_3_6
     refine join_ (σ := Value × Value × Value) 2 #[true, true, true, true, true, true, false, false] (fun s_ => [(8, s_.1), (9, s_.2.1), (10, s_.2.2), (12, .agg #[s_.1, s_.2.1, s_.2.2, .int .i64 0, .int .i64 a1])]) (fun s_ w' => (Kd.R k37 37 w' w.heap.size (fun _ => True) s_.1 t961) ∧ (Kd.R Kd.bool 4 w' w.heap.size (fun k_ => some k_ ≠ (s_.2.2 : Value).ownBlock) s_.2.1 y964) ∧ (Kd.R Kd.bool 4 w' w.heap.size (fun k_ => some k_ ≠ (s_.2.1 : Value).ownBlock) s_.2.2 y967) ∧ (w'.heap[gb960]? = some (.cells #[.slice none 0 0, .slice none 0 0, .slice none 0 0, .int .i64 0, .int .i64 0] 30 (0, 0))) ∧ (Below w.heap.size w w')) ?_ ?_
     rotate_left
     ·
      intro hJ1_2_3
      refine join_ (σ := Value × Value × Nat) 3 #[true, true, true, false, true, false, true, false] (fun s_ => [(8, s_.1), (9, s_.2.1), (6, .pointer (some ⟨s_.2.2, 0, none⟩))]) (fun s_ w' => (Kd.R k37 37 w' w.heap.size (fun _ => True) s_.1 t961) ∧ (Kd.R Kd.bool 4 w' w.heap.size (fun _ => True) s_.2.1 y964) ∧ (w'.heap[gb960]? = some (.cells #[.slice none 0 0, .slice none 0 0, .slice none 0 0, .int .i64 0, .int .i64 0] 30 (0, 0))) ∧ (w'.heap[s_.2.2]? = some (.cells #[.slice none 0 0, .slice none 0 0, .slice none 0 0, .int .i64 0, .int .i64 0] 30 (0, 0))) ∧ (w.heap.size ≤ s_.2.2) ∧ (w.heap.size ≤ s_.2.2) ∧ (gb960 ≠ s_.2.2) ∧ (s_.2.2 ≠ gb960) ∧ (Below w.heap.size w w')) ?_ ?_
      rotate_left
      ·
       intro hJ1_2_6
       refine join_ (σ := Value × Value × Nat) 3 #[true, true, false, true, true, false, true, false] (fun s_ => [(8, s_.1), (10, s_.2.1), (6, .pointer (some ⟨s_.2.2, 0, none⟩))]) (fun s_ w' => (Kd.R k37 37 w' w.heap.size (fun _ => True) s_.1 t961) ∧ (Kd.R Kd.bool 4 w' w.heap.size (fun _ => True) s_.2.1 y967) ∧ (w'.heap[gb960]? = some (.cells #[.slice none 0 0, .slice none 0 0, .slice none 0 0, .int .i64 0, .int .i64 0] 30 (0, 0))) ∧ (w'.heap[s_.2.2]? = some (.cells #[.slice none 0 0, .slice none 0 0, .slice none 0 0, .int .i64 0, .int .i64 0] 30 (0, 0))) ∧ (w.heap.size ≤ s_.2.2) ∧ (w.heap.size ≤ s_.2.2) ∧ (gb960 ≠ s_.2.2) ∧ (s_.2.2 ≠ gb960) ∧ (Below w.heap.size w w')) ?_ ?_
       rotate_left
       ·
        intro hJ1_3_6; refine join_ (σ := Value × Value × Nat) 3 #[true, false, true, true, true, false, true, false] (fun s_ => [(9, s_.1), (10, s_.2.1), (6, .pointer (some ⟨s_.2.2, 0, none⟩))]) (fun s_ w' => (Kd.R Kd.bool 4 w' w.heap.size (fun k_ => some k_ ≠ (s_.2.1 : Value).ownBlock) s_.1 y964) ∧ (Kd.R Kd.bool 4 w' w.heap.size (fun k_ => some k_ ≠ (s_.1 : Value).ownBlock) s_.2.1 y967) ∧ (w'.heap[gb960]? = some (.cells #[.slice none 0 0, .slice none 0 0, .slice none 0 0, .int .i64 0, .int .i64 0] 30 (0, 0))) ∧ (w'.heap[s_.2.2]? = some (.cells #[.slice none 0 0, .slice none 0 0, .slice none 0 0, .int .i64 0, .int .i64 0] 30 (0, 0))) ∧ (w.heap.size ≤ s_.2.2) ∧ (w.heap.size ≤ s_.2.2) ∧ (gb960 ≠ s_.2.2) ∧ (s_.2.2 ≠ gb960) ∧ (Below w.heap.size w w')) ?_ ?_; rotate_left
        ·
         intro hJ2_3_6; refine join_ (σ := Value × Value) 4 #[true, true, true, false, true, false, false, false] (fun s_ => [(8, s_.1), (9, s_.2)]) (fun s_ w' => (Kd.R k37 37 w' w.heap.size (fun _ => True) s_.1 t961) ∧ (Kd.R Kd.bool 4 w' w.heap.size (fun _ => True) s_.2 y964) ∧ (w'.heap[gb960]? = some (.cells #[.slice none 0 0, .slice none 0 0, .slice none 0 0, .int .i64 0, .int .i64 0] 30 (0, 0))) ∧ (Below w.heap.size w w')) ?_ ?_; rotate_left
         ·
          intro hJ1_2; refine join_ (σ := Value × Value) 4 #[true, true, false, true, true, false, false, false] (fun s_ => [(8, s_.1), (10, s_.2)]) (fun s_ w' => (Kd.R k37 37 w' w.heap.size (fun _ => True) s_.1 t961) ∧ (Kd.R Kd.bool 4 w' w.heap.size (fun _ => True) s_.2 y967) ∧ (w'.heap[gb960]? = some (.cells #[.slice none 0 0, .slice none 0 0, .slice none 0 0, .int .i64 0, .int .i64 0] 30 (0, 0))) ∧ (Below w.heap.size w w')) ?_ ?_; rotate_left
          ·
           intro hJ1_3; refine join_ (σ := Value × Nat) 4 #[true, true, false, false, true, false, true, false] (fun s_ => [(8, s_.1), (6, .pointer (some ⟨s_.2, 0, none⟩))]) (fun s_ w' => (Kd.R k37 37 w' w.heap.size (fun _ => True) s_.1 t961) ∧ (w'.heap[gb960]? = some (.cells #[.slice none 0 0, .slice none 0 0, .slice none 0 0, .int .i64 0, .int .i64 0] 30 (0, 0))) ∧ (w'.heap[s_.2]? = some (.cells #[.slice none 0 0, .slice none 0 0, .slice none 0 0, .int .i64 0, .int .i64 0] 30 (0, 0))) ∧ (w.heap.size ≤ s_.2) ∧ (w.heap.size ≤ s_.2) ∧ (gb960 ≠ s_.2) ∧ (s_.2 ≠ gb960) ∧ (Below w.heap.size w w')) ?_ ?_; rotate_left
           ·
            intro hJ1_6; refine join_ (σ := Value × Value) 4 #[true, false, true, true, true, false, false, false] (fun s_ => [(9, s_.1), (10, s_.2)]) (fun s_ w' => (Kd.R Kd.bool 4 w' w.heap.size (fun k_ => some k_ ≠ (s_.2 : Value).ownBlock) s_.1 y964) ∧ (Kd.R Kd.bool 4 w' w.heap.size (fun k_ => some k_ ≠ (s_.1 : Value).ownBlock) s_.2 y967) ∧ (w'.heap[gb960]? = some (.cells #[.slice none 0 0, .slice none 0 0, .slice none 0 0, .int .i64 0, .int .i64 0] 30 (0, 0))) ∧ (Below w.heap.size w w')) ?_ ?_; rotate_left
            ·
             intro hJ2_3; refine join_ (σ := Value × Nat) 4 #[true, false, true, false, true, false, true, false] (fun s_ => [(9, s_.1), (6, .pointer (some ⟨s_.2, 0, none⟩))]) (fun s_ w' => (Kd.R Kd.bool 4 w' w.heap.size (fun _ => True) s_.1 y964) ∧ (w'.heap[gb960]? = some (.cells #[.slice none 0 0, .slice none 0 0, .slice none 0 0, .int .i64 0, .int .i64 0] 30 (0, 0))) ∧ (w'.heap[s_.2]? = some (.cells #[.slice none 0 0, .slice none 0 0, .slice none 0 0, .int .i64 0, .int .i64 0] 30 (0, 0))) ∧ (w.heap.size ≤ s_.2) ∧ (w.heap.size ≤ s_.2) ∧ (gb960 ≠ s_.2) ∧ (s_.2 ≠ gb960) ∧ (Below w.heap.size w w')) ?_ ?_; rotate_left
             ·
              intro hJ2_6; refine join_ (σ := Value × Nat) 4 #[true, false, false, true, true, false, true, false] (fun s_ => [(10, s_.1), (6, .pointer (some ⟨s_.2, 0, none⟩))]) (fun s_ w' => (Kd.R Kd.bool 4 w' w.heap.size (fun _ => True) s_.1 y967) ∧ (w'.heap[gb960]? = some (.cells #[.slice none 0 0, .slice none 0 0, .slice none 0 0, .int .i64 0, .int .i64 0] 30 (0, 0))) ∧ (w'.heap[s_.2]? = some (.cells #[.slice none 0 0, .slice none 0 0, .slice none 0 0, .int .i64 0, .int .i64 0] 30 (0, 0))) ∧ (w.heap.size ≤ s_.2) ∧ (w.heap.size ≤ s_.2) ∧ (gb960 ≠ s_.2) ∧ (s_.2 ≠ gb960) ∧ (Below w.heap.size w w')) ?_ ?_; rotate_left
              ·
               intro hJ3_6; refine join_ (σ := Value) 5 #[true, true, false, false, true, false, false, false] (fun s_ => [(8, s_)]) (fun s_ w' => (Kd.R k37 37 w' w.heap.size (fun _ => True) s_ t961) ∧ (w'.heap[gb960]? = some (.cells #[.slice none 0 0, .slice none 0 0, .slice none 0 0, .int .i64 0, .int .i64 0] 30 (0, 0))) ∧ (Below w.heap.size w w')) ?_ ?_; rotate_left
               ·
                intro hJ1; refine join_ (σ := Value) 5 #[true, false, true, false, true, false, false, false] (fun s_ => [(9, s_)]) (fun s_ w' => (Kd.R Kd.bool 4 w' w.heap.size (fun _ => True) s_ y964) ∧ (w'.heap[gb960]? = some (.cells #[.slice none 0 0, .slice none 0 0, .slice none 0 0, .int .i64 0, .int .i64 0] 30 (0, 0))) ∧ (Below w.heap.size w w')) ?_ ?_; rotate_left
                ·
                 intro hJ2; refine join_ (σ := Value) 5 #[true, false, false, true, true, false, false, false] (fun s_ => [(10, s_)]) (fun s_ w' => (Kd.R Kd.bool 4 w' w.heap.size (fun _ => True) s_ y967) ∧ (w'.heap[gb960]? = some (.cells #[.slice none 0 0, .slice none 0 0, .slice none 0 0, .int .i64 0, .int .i64 0] 30 (0, 0))) ∧ (Below w.heap.size w w')) ?_ ?_; rotate_left
                 ·
                  intro hJ3; refine join_ (σ := Nat) 5 #[true, false, false, false, true, false, true, false] (fun s_ => [(6, .pointer (some ⟨s_, 0, none⟩))]) (fun s_ w' => (w'.heap[gb960]? = some (.cells #[.slice none 0 0, .slice none 0 0, .slice none 0 0, .int .i64 0, .int .i64 0] 30 (0, 0))) ∧ (w'.heap[s_]? = some (.cells #[.slice none 0 0, .slice none 0 0, .slice none 0 0, .int .i64 0, .int .i64 0] 30 (0, 0))) ∧ (w.heap.size ≤ s_) ∧ (w.heap.size ≤ s_) ∧ (gb960 ≠ s_) ∧ (s_ ≠ gb960) ∧ (Below w.heap.size w w')) ?_ ?_; rotate_left
                  ·
                   intro hJ6; refine four_ (i := 1) (j := 2) (k := 3) (m := 6) (Ni := some 8) (Nj := some 9) (Nk := some 10) (Nm := some 6) #[true, true, false, false, true, false, false, false] #[true, false, true, false, true, false, false, false] #[true, false, false, true, true, false, false, false] #[true, false, false, false, true, false, true, false] rfl rfl rfl rfl rfl rfl rfl rfl (four_of HT_.out (by kernel_rfl)) (by decide) (by decide) (by decide) (by decide) (fun K hK => ?_) (fun K hK => ?_) (fun K hK => ?_) (fun K hK => ?_)
                   ·
                    skip; refine gs_ Try.func87 #[.slice A0 l0.length c0] ?_; (with_reducible refine (impl_Leg_87.calls _ _ l0 t961 _ ?side1 ?side2 A3.out).mono ?_); (case side1 => exact kc_ (Kd.C_below HR0.out HB.out)); (case side2 => exact HC0.out); rintro e w40 ⟨v962, rfl, ho0, hb⟩; refine ⟨_, rfl, ?_⟩; have HO963 := Aside0.mk (Kd.R_lower ho0 (below_size (lb1_ HB.out GE960.out))); replace BK960 := Aside0.mk (bb_ (bk_ BK960.out) hb); replace HB := Aside0.mk (below_step (lb1_ HB.out GE960.out) hb); (try clear hb); (try clear hb2); (try clear hk); (try clear hi); (try clear ho0); refine hK.out _ _ trivial (fun hHeld => ?_); clear hK K; refine na_ ?_; exact nj_ (hJ1 (v962) _ ⟨(kr_ HO963.out), (bk_ BK960.out), (lb1_ HB.out GE960.out)⟩)
                   ·
                    skip; refine Kd.R_make_step Kd.bool _ 4 (by rfl) (N := 9) rfl 23 _ _ rfl 8 rfl rfl Try.underlying23 (.bool false) 1 info4 rfl (by decide) (by omega) false (ok := fun _ => True) (okp := fun _ => True) rfl (fun _ hk => hk) trivial (by omega) (by omega) (Below.refl _ _) (Nat.le_refl _) ?_; intro v965 w40 ho41 hb hg_ hnew_; clear hg_ hnew_; replace ho41 := ry_ Ny964.out ho41; have HO966 := Aside0.mk (Kd.R_lower ho41 (below_size (lb1_ HB.out GE960.out))); replace BK960 := Aside0.mk (bb_ (bk_ BK960.out) hb); replace HB := Aside0.mk (below_step (lb1_ HB.out GE960.out) hb); clear hb ho41; refine hK.out _ _ trivial (fun hHeld => ?_); clear hK K; refine na_ ?_; exact nj_ (hJ2 (v965) _ ⟨(kr_ HO966.out), (bk_ BK960.out), (lb1_ HB.out GE960.out)⟩)
                   ·
                    skip; refine Kd.R_make_step Kd.bool _ 4 (by rfl) (N := 10) rfl 23 _ _ rfl 8 rfl rfl Try.underlying23 (.bool false) 1 info4 rfl (by decide) (by omega) false (ok := fun _ => True) (okp := fun _ => True) rfl (fun _ hk => hk) trivial (by omega) (by omega) (Below.refl _ _) (Nat.le_refl _) ?_; intro v968 w40 ho41 hb hg_ hnew_; clear hg_ hnew_; replace ho41 := ry_ Ny967.out ho41; have HO969 := Aside0.mk (Kd.R_lower ho41 (below_size (lb1_ HB.out GE960.out))); replace BK960 := Aside0.mk (bb_ (bk_ BK960.out) hb); replace HB := Aside0.mk (below_step (lb1_ HB.out GE960.out) hb); clear hb ho41; refine hK.out _ _ trivial (fun hHeld => ?_); clear hK K; refine na_ ?_; exact nj_ (hJ3 (v968) _ ⟨(kr_ HO969.out), (bk_ BK960.out), (lb1_ HB.out GE960.out)⟩)
                   ·
                    skip; refine box_step ?hg (N := 6) ?hd (cs := #[.slice none 0 0, .slice none 0 0, .slice none 0 0, .int .i64 0, .int .i64 0]) (t := 30) ?hr ?_; (case hd => rfl); (case hg => rfl); (case hr => first | (go_simp; done) | (go_simp; rfl)); intro gb970 hg w40 hbox hb; have BK970 := Aside0.mk (hbox); have GW970 := Aside0.mk ((bz_ hg (lb1_ HB.out GE960.out))); have GE970 := Aside0.mk ((bz_ hg (lb1_ HB.out GE960.out))); replace HB := Aside0.mk (below_step (lb1_ HB.out GE960.out) hb); have NB960_970 := Aside0.mk ((by rw [hg]; exact Nat.ne_of_lt (blk_lt (g := gb960) (o := .cells #[.slice none 0 0, .slice none 0 0, .slice none 0 0, .int .i64 0, .int .i64 0] 30 (0, 0)) (bk_ BK960.out)) : gb960 ≠ gb970)); have NB970_960 := Aside0.mk ((by rw [hg]; exact Nat.ne_of_gt (blk_lt (g := gb960) (o := .cells #[.slice none 0 0, .slice none 0 0, .slice none 0 0, .int .i64 0, .int .i64 0] 30 (0, 0)) (bk_ BK960.out)) : gb970 ≠ gb960)); replace BK960 := Aside0.mk (bb_ (bk_ BK960.out) hb); clear hb hbox hg; refine hK.out _ _ trivial (fun hHeld => ?_); clear hK K; refine na_ ?_; exact nj_ (hJ6 (gb970) _ ⟨(bk_ BK960.out), (bk_ BK970.out), GW970.out, GE970.out, NB960_970.out, NB970_960.out, (lb2_ HB.out GE960.out GE970.out)⟩)
                  ·
                   skip; rintro gb970 w41 ⟨h0_, h1_, h2_, h3_, h4_, h5_, h6_⟩; (try dsimp only at h0_ h1_ h2_ h3_ h4_ h5_ h6_); replace BK960 := Aside0.mk h0_; have BK970 := Aside0.mk h1_; have GW970 := Aside0.mk h2_; have GE970 := Aside0.mk h3_; have NB960_970 := Aside0.mk h4_; have NB970_960 := Aside0.mk h5_; replace HB := Aside0.mk h6_; clear h0_ h1_ h2_ h3_ h4_ h5_ h6_; have hHeld := trivial; refine nb_ ?_; refine three_ (i := 1) (j := 2) (k := 3) (Ni := some 8) (Nj := some 9) (Nk := some 10) #[true, true, false, false, true, false, true, false] #[true, false, true, false, true, false, true, false] #[true, false, false, true, true, false, true, false] rfl rfl rfl rfl rfl rfl (three_of HT_.out (by kernel_rfl)) (by decide) (by decide) (by decide) (fun K hK => ?_) (fun K hK => ?_) (fun K hK => ?_)
                   ·
                    skip; refine gs_ Try.func87 #[.slice A0 l0.length c0] ?_; (with_reducible refine (impl_Leg_87.calls _ _ l0 t961 _ ?side1 ?side2 A3.out).mono ?_); (case side1 => exact kc_ (Kd.C_below HR0.out HB.out)); (case side2 => exact HC0.out); rintro e w42 ⟨v962, rfl, ho0, hb⟩; refine ⟨_, rfl, ?_⟩; have HO963 := Aside0.mk (Kd.R_lower ho0 (below_size (lb2_ HB.out GE960.out GE970.out))); replace BK960 := Aside0.mk (bb_ (bk_ BK960.out) hb); replace BK970 := Aside0.mk (bb_ (bk_ BK970.out) hb); replace HB := Aside0.mk (below_step (lb2_ HB.out GE960.out GE970.out) hb); (try clear hb); (try clear hb2); (try clear hk); (try clear hi); (try clear ho0); refine hK.out _ _ trivial (fun hHeld => ?_); clear hK K; refine na_ ?_; exact nj_ (hJ1_6 (v962, gb970) _ ⟨(kr_ HO963.out), (bk_ BK960.out), (bk_ BK970.out), GW970.out, GE970.out, NB960_970.out, NB970_960.out, (lb2_ HB.out GE960.out GE970.out)⟩)
                   ·
                    skip; refine Kd.R_make_step Kd.bool _ 4 (by rfl) (N := 9) rfl 23 _ _ rfl 8 rfl rfl Try.underlying23 (.bool false) 1 info4 rfl (by decide) (by omega) false (ok := fun _ => True) (okp := fun _ => True) rfl (fun _ hk => hk) trivial (by omega) (by omega) (Below.refl _ _) (Nat.le_refl _) ?_; intro v965 w42 ho43 hb hg_ hnew_; clear hg_ hnew_; replace ho43 := ry_ Ny964.out ho43; have HO966 := Aside0.mk (Kd.R_lower ho43 (below_size (lb2_ HB.out GE960.out GE970.out))); replace BK960 := Aside0.mk (bb_ (bk_ BK960.out) hb); replace BK970 := Aside0.mk (bb_ (bk_ BK970.out) hb); replace HB := Aside0.mk (below_step (lb2_ HB.out GE960.out GE970.out) hb); clear hb ho43; refine hK.out _ _ trivial (fun hHeld => ?_); clear hK K; refine na_ ?_; exact nj_ (hJ2_6 (v965, gb970) _ ⟨(kr_ HO966.out), (bk_ BK960.out), (bk_ BK970.out), GW970.out, GE970.out, NB960_970.out, NB970_960.out, (lb2_ HB.out GE960.out GE970.out)⟩)
                   ·
                    skip; refine Kd.R_make_step Kd.bool _ 4 (by rfl) (N := 10) rfl 23 _ _ rfl 8 rfl rfl Try.underlying23 (.bool false) 1 info4 rfl (by decide) (by omega) false (ok := fun _ => True) (okp := fun _ => True) rfl (fun _ hk => hk) trivial (by omega) (by omega) (Below.refl _ _) (Nat.le_refl _) ?_; intro v968 w42 ho43 hb hg_ hnew_; clear hg_ hnew_; replace ho43 := ry_ Ny967.out ho43; have HO969 := Aside0.mk (Kd.R_lower ho43 (below_size (lb2_ HB.out GE960.out GE970.out))); replace BK960 := Aside0.mk (bb_ (bk_ BK960.out) hb); replace BK970 := Aside0.mk (bb_ (bk_ BK970.out) hb); replace HB := Aside0.mk (below_step (lb2_ HB.out GE960.out GE970.out) hb); clear hb ho43; refine hK.out _ _ trivial (fun hHeld => ?_); clear hK K; refine na_ ?_; exact nj_ (hJ3_6 (v968, gb970) _ ⟨(kr_ HO969.out), (bk_ BK960.out), (bk_ BK970.out), GW970.out, GE970.out, NB960_970.out, NB970_960.out, (lb2_ HB.out GE960.out GE970.out)⟩)
                 ·
                  skip; rintro v968 w42 ⟨h0_, h1_, h2_⟩; (try dsimp only at h0_ h1_ h2_); have HO969 := Aside0.mk h0_; replace BK960 := Aside0.mk h1_; replace HB := Aside0.mk h2_; clear h0_ h1_ h2_; have hHeld := trivial; refine nb_ ?_; refine three_ (i := 1) (j := 2) (k := 6) (Ni := some 8) (Nj := some 9) (Nk := some 6) #[true, true, false, true, true, false, false, false] #[true, false, true, true, true, false, false, false] #[true, false, false, true, true, false, true, false] rfl rfl rfl rfl rfl rfl (three_of HT_.out (by kernel_rfl)) (by decide) (by decide) (by decide) (fun K hK => ?_) (fun K hK => ?_) (fun K hK => ?_)
                  ·
                   skip; refine gs_ Try.func87 #[.slice A0 l0.length c0] ?_; (with_reducible refine (impl_Leg_87.calls _ _ l0 t961 _ ?side1 ?side2 A3.out).mono ?_); (case side1 => exact kc_ (Kd.C_below HR0.out HB.out)); (case side2 => exact HC0.out); rintro e w43 ⟨v962, rfl, ho0, hb⟩; refine ⟨_, rfl, ?_⟩; replace HO969 := Aside0.mk (Kd.R_below (kr_ HO969.out) hb); have HO963 := Aside0.mk (Kd.R_lower ho0 (below_size (lb1_ HB.out GE960.out))); replace BK960 := Aside0.mk (bb_ (bk_ BK960.out) hb); replace HB := Aside0.mk (below_step (lb1_ HB.out GE960.out) hb); (try clear hb); (try clear hb2); (try clear hk); (try clear hi); (try clear ho0); refine hK.out _ _ trivial (fun hHeld => ?_); clear hK K; refine na_ ?_; exact nj_ (hJ1_3 (v962, v968) _ ⟨(kr_ HO963.out), (kr_ HO969.out), (bk_ BK960.out), (lb1_ HB.out GE960.out)⟩)
                  ·
                   skip; refine Kd.R_make_step Kd.bool _ 4 (by rfl) (N := 9) rfl 23 _ _ rfl 8 rfl rfl Try.underlying23 (.bool false) 1 info4 rfl (by decide) (by omega) false (ok := fun _ => True) (okp := fun _ => True) rfl (fun _ hk => hk) trivial (by omega) (by omega) (Below.refl _ _) (Nat.le_refl _) ?_; intro v965 w43 ho44 hb hg_ hnew_; clear hg_ hnew_; replace ho44 := ry_ Ny964.out ho44; have HO966 := Aside0.mk (Kd.R_lower (Kd.R_new' ho44 (Kd.R_lt (kr_ HO969.out))) (below_size (lb1_ HB.out GE960.out))); replace HO969 := Aside0.mk (Kd.R_elder' (kr_ HO969.out) (Kd.R_base ho44) hb); replace BK960 := Aside0.mk (bb_ (bk_ BK960.out) hb); replace HB := Aside0.mk (below_step (lb1_ HB.out GE960.out) hb); clear hb ho44; refine hK.out _ _ trivial (fun hHeld => ?_); clear hK K; refine na_ ?_; exact nj_ (hJ2_3 (v965, v968) _ ⟨(krm_ HO966.out (fun _ hk => hk.2)), (krm_ HO969.out (fun _ hk => hk.2)), (bk_ BK960.out), (lb1_ HB.out GE960.out)⟩)
                  ·
                   skip; refine box_step ?hg (N := 6) ?hd (cs := #[.slice none 0 0, .slice none 0 0, .slice none 0 0, .int .i64 0, .int .i64 0]) (t := 30) ?hr ?_; (case hd => rfl); (case hg => rfl); (case hr => first | (go_simp; done) | (go_simp; rfl)); intro gb970 hg w43 hbox hb; replace HO969 := Aside0.mk (Kd.R_below (kr_ HO969.out) hb); have BK970 := Aside0.mk (hbox); have GW970 := Aside0.mk ((bz_ hg (lb1_ HB.out GE960.out))); have GE970 := Aside0.mk ((bz_ hg (lb1_ HB.out GE960.out))); replace HB := Aside0.mk (below_step (lb1_ HB.out GE960.out) hb); have NB960_970 := Aside0.mk ((by rw [hg]; exact Nat.ne_of_lt (blk_lt (g := gb960) (o := .cells #[.slice none 0 0, .slice none 0 0, .slice none 0 0, .int .i64 0, .int .i64 0] 30 (0, 0)) (bk_ BK960.out)) : gb960 ≠ gb970)); have NB970_960 := Aside0.mk ((by rw [hg]; exact Nat.ne_of_gt (blk_lt (g := gb960) (o := .cells #[.slice none 0 0, .slice none 0 0, .slice none 0 0, .int .i64 0, .int .i64 0] 30 (0, 0)) (bk_ BK960.out)) : gb970 ≠ gb960)); replace BK960 := Aside0.mk (bb_ (bk_ BK960.out) hb); clear hb hbox hg; refine hK.out _ _ trivial (fun hHeld => ?_); clear hK K; refine na_ ?_; exact nj_ (hJ3_6 (v968, gb970) _ ⟨(kr_ HO969.out), (bk_ BK960.out), (bk_ BK970.out), GW970.out, GE970.out, NB960_970.out, NB970_960.out, (lb2_ HB.out GE960.out GE970.out)⟩)
                ·
                 skip; rintro v965 w42 ⟨h0_, h1_, h2_⟩; (try dsimp only at h0_ h1_ h2_); have HO966 := Aside0.mk h0_; replace BK960 := Aside0.mk h1_; replace HB := Aside0.mk h2_; clear h0_ h1_ h2_; have hHeld := trivial; refine nb_ ?_; refine three_ (i := 1) (j := 3) (k := 6) (Ni := some 8) (Nj := some 10) (Nk := some 6) #[true, true, true, false, true, false, false, false] #[true, false, true, true, true, false, false, false] #[true, false, true, false, true, false, true, false] rfl rfl rfl rfl rfl rfl (three_of HT_.out (by kernel_rfl)) (by decide) (by decide) (by decide) (fun K hK => ?_) (fun K hK => ?_) (fun K hK => ?_)
                 ·
                  skip; refine gs_ Try.func87 #[.slice A0 l0.length c0] ?_; (with_reducible refine (impl_Leg_87.calls _ _ l0 t961 _ ?side1 ?side2 A3.out).mono ?_); (case side1 => exact kc_ (Kd.C_below HR0.out HB.out)); (case side2 => exact HC0.out); rintro e w43 ⟨v962, rfl, ho0, hb⟩; refine ⟨_, rfl, ?_⟩; replace HO966 := Aside0.mk (Kd.R_below (kr_ HO966.out) hb); have HO963 := Aside0.mk (Kd.R_lower ho0 (below_size (lb1_ HB.out GE960.out))); replace BK960 := Aside0.mk (bb_ (bk_ BK960.out) hb); replace HB := Aside0.mk (below_step (lb1_ HB.out GE960.out) hb); (try clear hb); (try clear hb2); (try clear hk); (try clear hi); (try clear ho0); refine hK.out _ _ trivial (fun hHeld => ?_); clear hK K; refine na_ ?_; exact nj_ (hJ1_2 (v962, v965) _ ⟨(kr_ HO963.out), (kr_ HO966.out), (bk_ BK960.out), (lb1_ HB.out GE960.out)⟩)
                 ·
                  skip; refine Kd.R_make_step Kd.bool _ 4 (by rfl) (N := 10) rfl 23 _ _ rfl 8 rfl rfl Try.underlying23 (.bool false) 1 info4 rfl (by decide) (by omega) false (ok := fun _ => True) (okp := fun _ => True) rfl (fun _ hk => hk) trivial (by omega) (by omega) (Below.refl _ _) (Nat.le_refl _) ?_; intro v968 w43 ho44 hb hg_ hnew_; clear hg_ hnew_; replace ho44 := ry_ Ny967.out ho44; have HO969 := Aside0.mk (Kd.R_lower (Kd.R_new' ho44 (Kd.R_lt (kr_ HO966.out))) (below_size (lb1_ HB.out GE960.out))); replace HO966 := Aside0.mk (Kd.R_elder' (kr_ HO966.out) (Kd.R_base ho44) hb); replace BK960 := Aside0.mk (bb_ (bk_ BK960.out) hb); replace HB := Aside0.mk (below_step (lb1_ HB.out GE960.out) hb); clear hb ho44; refine hK.out _ _ trivial (fun hHeld => ?_); clear hK K; refine na_ ?_; exact nj_ (hJ2_3 (v965, v968) _ ⟨(krm_ HO966.out (fun _ hk => hk.2)), (krm_ HO969.out (fun _ hk => hk.2)), (bk_ BK960.out), (lb1_ HB.out GE960.out)⟩)
                 ·
                  skip; refine box_step ?hg (N := 6) ?hd (cs := #[.slice none 0 0, .slice none 0 0, .slice none 0 0, .int .i64 0, .int .i64 0]) (t := 30) ?hr ?_; (case hd => rfl); (case hg => rfl); (case hr => first | (go_simp; done) | (go_simp; rfl)); intro gb970 hg w43 hbox hb; replace HO966 := Aside0.mk (Kd.R_below (kr_ HO966.out) hb); have BK970 := Aside0.mk (hbox); have GW970 := Aside0.mk ((bz_ hg (lb1_ HB.out GE960.out))); have GE970 := Aside0.mk ((bz_ hg (lb1_ HB.out GE960.out))); replace HB := Aside0.mk (below_step (lb1_ HB.out GE960.out) hb); have NB960_970 := Aside0.mk ((by rw [hg]; exact Nat.ne_of_lt (blk_lt (g := gb960) (o := .cells #[.slice none 0 0, .slice none 0 0, .slice none 0 0, .int .i64 0, .int .i64 0] 30 (0, 0)) (bk_ BK960.out)) : gb960 ≠ gb970)); have NB970_960 := Aside0.mk ((by rw [hg]; exact Nat.ne_of_gt (blk_lt (g := gb960) (o := .cells #[.slice none 0 0, .slice none 0 0, .slice none 0 0, .int .i64 0, .int .i64 0] 30 (0, 0)) (bk_ BK960.out)) : gb970 ≠ gb960)); replace BK960 := Aside0.mk (bb_ (bk_ BK960.out) hb); clear hb hbox hg; refine hK.out _ _ trivial (fun hHeld => ?_); clear hK K; refine na_ ?_; exact nj_ (hJ2_6 (v965, gb970) _ ⟨(kr_ HO966.out), (bk_ BK960.out), (bk_ BK970.out), GW970.out, GE970.out, NB960_970.out, NB970_960.out, (lb2_ HB.out GE960.out GE970.out)⟩)
               ·
                skip; rintro v962 w41 ⟨h0_, h1_, h2_⟩; (try dsimp only at h0_ h1_ h2_); have HO963 := Aside0.mk h0_; replace BK960 := Aside0.mk h1_; replace HB := Aside0.mk h2_; clear h0_ h1_ h2_; have hHeld := trivial; refine nb_ ?_; refine three_ (i := 2) (j := 3) (k := 6) (Ni := some 9) (Nj := some 10) (Nk := some 6) #[true, true, true, false, true, false, false, false] #[true, true, false, true, true, false, false, false] #[true, true, false, false, true, false, true, false] rfl rfl rfl rfl rfl rfl (three_of HT_.out (by kernel_rfl)) (by decide) (by decide) (by decide) (fun K hK => ?_) (fun K hK => ?_) (fun K hK => ?_)
                ·
                 skip; refine Kd.R_make_step Kd.bool _ 4 (by rfl) (N := 9) rfl 23 _ _ rfl 8 rfl rfl Try.underlying23 (.bool false) 1 info4 rfl (by decide) (by omega) false (ok := fun _ => True) (okp := fun _ => True) rfl (fun _ hk => hk) trivial (by omega) (by omega) (Below.refl _ _) (Nat.le_refl _) ?_; intro v965 w42 ho43 hb hg_ hnew_; clear hg_ hnew_; replace ho43 := ry_ Ny964.out ho43; replace HO963 := Aside0.mk (Kd.R_below (kr_ HO963.out) hb); have HO966 := Aside0.mk (Kd.R_lower ho43 (below_size (lb1_ HB.out GE960.out))); replace BK960 := Aside0.mk (bb_ (bk_ BK960.out) hb); replace HB := Aside0.mk (below_step (lb1_ HB.out GE960.out) hb); clear hb ho43; refine hK.out _ _ trivial (fun hHeld => ?_); clear hK K; refine na_ ?_; exact nj_ (hJ1_2 (v962, v965) _ ⟨(kr_ HO963.out), (kr_ HO966.out), (bk_ BK960.out), (lb1_ HB.out GE960.out)⟩)
                ·
                 skip; refine Kd.R_make_step Kd.bool _ 4 (by rfl) (N := 10) rfl 23 _ _ rfl 8 rfl rfl Try.underlying23 (.bool false) 1 info4 rfl (by decide) (by omega) false (ok := fun _ => True) (okp := fun _ => True) rfl (fun _ hk => hk) trivial (by omega) (by omega) (Below.refl _ _) (Nat.le_refl _) ?_; intro v968 w42 ho43 hb hg_ hnew_; clear hg_ hnew_; replace ho43 := ry_ Ny967.out ho43; replace HO963 := Aside0.mk (Kd.R_below (kr_ HO963.out) hb); have HO969 := Aside0.mk (Kd.R_lower ho43 (below_size (lb1_ HB.out GE960.out))); replace BK960 := Aside0.mk (bb_ (bk_ BK960.out) hb); replace HB := Aside0.mk (below_step (lb1_ HB.out GE960.out) hb); clear hb ho43; refine hK.out _ _ trivial (fun hHeld => ?_); clear hK K; refine na_ ?_; exact nj_ (hJ1_3 (v962, v968) _ ⟨(kr_ HO963.out), (kr_ HO969.out), (bk_ BK960.out), (lb1_ HB.out GE960.out)⟩)
                ·
                 skip; refine box_step ?hg (N := 6) ?hd (cs := #[.slice none 0 0, .slice none 0 0, .slice none 0 0, .int .i64 0, .int .i64 0]) (t := 30) ?hr ?_; (case hd => rfl); (case hg => rfl); (case hr => first | (go_simp; done) | (go_simp; rfl)); intro gb970 hg w42 hbox hb; replace HO963 := Aside0.mk (Kd.R_below (kr_ HO963.out) hb); have BK970 := Aside0.mk (hbox); have GW970 := Aside0.mk ((bz_ hg (lb1_ HB.out GE960.out))); have GE970 := Aside0.mk ((bz_ hg (lb1_ HB.out GE960.out))); replace HB := Aside0.mk (below_step (lb1_ HB.out GE960.out) hb); have NB960_970 := Aside0.mk ((by rw [hg]; exact Nat.ne_of_lt (blk_lt (g := gb960) (o := .cells #[.slice none 0 0, .slice none 0 0, .slice none 0 0, .int .i64 0, .int .i64 0] 30 (0, 0)) (bk_ BK960.out)) : gb960 ≠ gb970)); have NB970_960 := Aside0.mk ((by rw [hg]; exact Nat.ne_of_gt (blk_lt (g := gb960) (o := .cells #[.slice none 0 0, .slice none 0 0, .slice none 0 0, .int .i64 0, .int .i64 0] 30 (0, 0)) (bk_ BK960.out)) : gb970 ≠ gb960)); replace BK960 := Aside0.mk (bb_ (bk_ BK960.out) hb); clear hb hbox hg; refine hK.out _ _ trivial (fun hHeld => ?_); clear hK K; refine na_ ?_; exact nj_ (hJ1_6 (v962, gb970) _ ⟨(kr_ HO963.out), (bk_ BK960.out), (bk_ BK970.out), GW970.out, GE970.out, NB960_970.out, NB970_960.out, (lb2_ HB.out GE960.out GE970.out)⟩)
              ·
               skip; rintro ⟨v968, gb970⟩ w43 ⟨h0_, h1_, h2_, h3_, h4_, h5_, h6_, h7_⟩; (try dsimp only at h0_ h1_ h2_ h3_ h4_ h5_ h6_ h7_); have HO969 := Aside0.mk h0_; replace BK960 := Aside0.mk h1_; have BK970 := Aside0.mk h2_; have GW970 := Aside0.mk h3_; have GE970 := Aside0.mk h4_; have NB960_970 := Aside0.mk h5_; have NB970_960 := Aside0.mk h6_; replace HB := Aside0.mk h7_; clear h0_ h1_ h2_ h3_ h4_ h5_ h6_ h7_; have hHeld := trivial; refine nb_ ?_; refine two_ (i := 1) (j := 2) (Ni := some 8) (Nj := some 9) #[true, true, false, true, true, false, true, false] #[true, false, true, true, true, false, true, false] rfl rfl rfl rfl (two_of HT_.out (by kernel_rfl)) (by decide) (by decide) (fun K hK => ?_) (fun K hK => ?_)
               ·
                skip; refine gs_ Try.func87 #[.slice A0 l0.length c0] ?_; (with_reducible refine (impl_Leg_87.calls _ _ l0 t961 _ ?side1 ?side2 A3.out).mono ?_); (case side1 => exact kc_ (Kd.C_below HR0.out HB.out)); (case side2 => exact HC0.out); rintro e w44 ⟨v962, rfl, ho0, hb⟩; refine ⟨_, rfl, ?_⟩; replace HO969 := Aside0.mk (Kd.R_below (kr_ HO969.out) hb); have HO963 := Aside0.mk (Kd.R_lower ho0 (below_size (lb2_ HB.out GE960.out GE970.out))); replace BK960 := Aside0.mk (bb_ (bk_ BK960.out) hb); replace BK970 := Aside0.mk (bb_ (bk_ BK970.out) hb); replace HB := Aside0.mk (below_step (lb2_ HB.out GE960.out GE970.out) hb); (try clear hb); (try clear hb2); (try clear hk); (try clear hi); (try clear ho0); refine hK.out _ _ trivial (fun hHeld => ?_); clear hK K; refine na_ ?_; exact nj_ (hJ1_3_6 (v962, v968, gb970) _ ⟨(kr_ HO963.out), (kr_ HO969.out), (bk_ BK960.out), (bk_ BK970.out), GW970.out, GE970.out, NB960_970.out, NB970_960.out, (lb2_ HB.out GE960.out GE970.out)⟩)
               ·
                skip; refine Kd.R_make_step Kd.bool _ 4 (by rfl) (N := 9) rfl 23 _ _ rfl 8 rfl rfl Try.underlying23 (.bool false) 1 info4 rfl (by decide) (by omega) false (ok := fun _ => True) (okp := fun _ => True) rfl (fun _ hk => hk) trivial (by omega) (by omega) (Below.refl _ _) (Nat.le_refl _) ?_; intro v965 w44 ho45 hb hg_ hnew_; clear hg_ hnew_; replace ho45 := ry_ Ny964.out ho45; have HO966 := Aside0.mk (Kd.R_lower (Kd.R_new' ho45 (Kd.R_lt (kr_ HO969.out))) (below_size (lb2_ HB.out GE960.out GE970.out))); replace HO969 := Aside0.mk (Kd.R_elder' (kr_ HO969.out) (Kd.R_base ho45) hb); replace BK960 := Aside0.mk (bb_ (bk_ BK960.out) hb); replace BK970 := Aside0.mk (bb_ (bk_ BK970.out) hb); replace HB := Aside0.mk (below_step (lb2_ HB.out GE960.out GE970.out) hb); clear hb ho45; refine hK.out _ _ trivial (fun hHeld => ?_); clear hK K; refine na_ ?_; exact nj_ (hJ2_3_6 (v965, v968, gb970) _ ⟨(krm_ HO966.out (fun _ hk => hk.2)), (krm_ HO969.out (fun _ hk => hk.2)), (bk_ BK960.out), (bk_ BK970.out), GW970.out, GE970.out, NB960_970.out, NB970_960.out, (lb2_ HB.out GE960.out GE970.out)⟩)
             ·
              skip; rintro ⟨v965, gb970⟩ w43 ⟨h0_, h1_, h2_, h3_, h4_, h5_, h6_, h7_⟩; (try dsimp only at h0_ h1_ h2_ h3_ h4_ h5_ h6_ h7_); have HO966 := Aside0.mk h0_; replace BK960 := Aside0.mk h1_; have BK970 := Aside0.mk h2_; have GW970 := Aside0.mk h3_; have GE970 := Aside0.mk h4_; have NB960_970 := Aside0.mk h5_; have NB970_960 := Aside0.mk h6_; replace HB := Aside0.mk h7_; clear h0_ h1_ h2_ h3_ h4_ h5_ h6_ h7_; have hHeld := trivial; refine nb_ ?_; refine two_ (i := 1) (j := 3) (Ni := some 8) (Nj := some 10) #[true, true, true, false, true, false, true, false] #[true, false, true, true, true, false, true, false] rfl rfl rfl rfl (two_of HT_.out (by kernel_rfl)) (by decide) (by decide) (fun K hK => ?_) (fun K hK => ?_)
              ·
               skip; refine gs_ Try.func87 #[.slice A0 l0.length c0] ?_; (with_reducible refine (impl_Leg_87.calls _ _ l0 t961 _ ?side1 ?side2 A3.out).mono ?_); (case side1 => exact kc_ (Kd.C_below HR0.out HB.out)); (case side2 => exact HC0.out); rintro e w44 ⟨v962, rfl, ho0, hb⟩; refine ⟨_, rfl, ?_⟩; replace HO966 := Aside0.mk (Kd.R_below (kr_ HO966.out) hb); have HO963 := Aside0.mk (Kd.R_lower ho0 (below_size (lb2_ HB.out GE960.out GE970.out))); replace BK960 := Aside0.mk (bb_ (bk_ BK960.out) hb); replace BK970 := Aside0.mk (bb_ (bk_ BK970.out) hb); replace HB := Aside0.mk (below_step (lb2_ HB.out GE960.out GE970.out) hb); (try clear hb); (try clear hb2); (try clear hk); (try clear hi); (try clear ho0); refine hK.out _ _ trivial (fun hHeld => ?_); clear hK K; refine na_ ?_; exact nj_ (hJ1_2_6 (v962, v965, gb970) _ ⟨(kr_ HO963.out), (kr_ HO966.out), (bk_ BK960.out), (bk_ BK970.out), GW970.out, GE970.out, NB960_970.out, NB970_960.out, (lb2_ HB.out GE960.out GE970.out)⟩)
              ·
               skip; refine Kd.R_make_step Kd.bool _ 4 (by rfl) (N := 10) rfl 23 _ _ rfl 8 rfl rfl Try.underlying23 (.bool false) 1 info4 rfl (by decide) (by omega) false (ok := fun _ => True) (okp := fun _ => True) rfl (fun _ hk => hk) trivial (by omega) (by omega) (Below.refl _ _) (Nat.le_refl _) ?_; intro v968 w44 ho45 hb hg_ hnew_; clear hg_ hnew_; replace ho45 := ry_ Ny967.out ho45; have HO969 := Aside0.mk (Kd.R_lower (Kd.R_new' ho45 (Kd.R_lt (kr_ HO966.out))) (below_size (lb2_ HB.out GE960.out GE970.out))); replace HO966 := Aside0.mk (Kd.R_elder' (kr_ HO966.out) (Kd.R_base ho45) hb); replace BK960 := Aside0.mk (bb_ (bk_ BK960.out) hb); replace BK970 := Aside0.mk (bb_ (bk_ BK970.out) hb); replace HB := Aside0.mk (below_step (lb2_ HB.out GE960.out GE970.out) hb); clear hb ho45; refine hK.out _ _ trivial (fun hHeld => ?_); clear hK K; refine na_ ?_; exact nj_ (hJ2_3_6 (v965, v968, gb970) _ ⟨(krm_ HO966.out (fun _ hk => hk.2)), (krm_ HO969.out (fun _ hk => hk.2)), (bk_ BK960.out), (bk_ BK970.out), GW970.out, GE970.out, NB960_970.out, NB970_960.out, (lb2_ HB.out GE960.out GE970.out)⟩)
            ·
             skip; rintro ⟨v965, v968⟩ w44 ⟨h0_, h1_, h2_, h3_⟩; (try dsimp only at h0_ h1_ h2_ h3_); have HO966 := Aside0.mk h0_; have HO969 := Aside0.mk h1_; replace BK960 := Aside0.mk h2_; replace HB := Aside0.mk h3_; clear h0_ h1_ h2_ h3_; have hHeld := trivial; refine nb_ ?_; refine two_ (i := 1) (j := 6) (Ni := some 8) (Nj := some 6) #[true, true, true, true, true, false, false, false] #[true, false, true, true, true, false, true, false] rfl rfl rfl rfl (two_of HT_.out (by kernel_rfl)) (by decide) (by decide) (fun K hK => ?_) (fun K hK => ?_)
             ·
              skip; refine gs_ Try.func87 #[.slice A0 l0.length c0] ?_; (with_reducible refine (impl_Leg_87.calls _ _ l0 t961 _ ?side1 ?side2 A3.out).mono ?_); (case side1 => exact kc_ (Kd.C_below HR0.out HB.out)); (case side2 => exact HC0.out); rintro e w45 ⟨v962, rfl, ho0, hb⟩; refine ⟨_, rfl, ?_⟩; replace HO966 := Aside0.mk (Kd.R_below (kr_ HO966.out) hb); replace HO969 := Aside0.mk (Kd.R_below (kr_ HO969.out) hb); have HO963 := Aside0.mk (Kd.R_lower ho0 (below_size (lb1_ HB.out GE960.out))); replace BK960 := Aside0.mk (bb_ (bk_ BK960.out) hb); replace HB := Aside0.mk (below_step (lb1_ HB.out GE960.out) hb); (try clear hb); (try clear hb2); (try clear hk); (try clear hi); (try clear ho0); obtain ⟨Ao46, co46, eo46⟩ := Kd.R_slice HO969.out
              (first | subst eo46 | (injection eo46 with f1_ f2_ f3_; have f4_ := f1_.symm; have f5_ := f3_.symm; clear f1_ f2_ f3_; subst f4_; subst f5_))
              obtain ⟨Ao47, co47, eo47⟩ := Kd.R_slice HO966.out
              (first | subst eo47 | (injection eo47 with f1_ f2_ f3_; have f4_ := f1_.symm; have f5_ := f3_.symm; clear f1_ f2_ f3_; subst f4_; subst f5_))
              obtain ⟨Ao48, co48, eo48⟩ := Kd.R_slice HO963.out
              (first | subst eo48 | (injection eo48 with f1_ f2_ f3_; have f4_ := f1_.symm; have f5_ := f3_.symm; clear f1_ f2_ f3_; subst f4_; subst f5_))
              refine hK.out _ _ trivial (fun hHeld => ?_); clear hK K; refine na_ ?_; refine pz_ HT_ 5 (some 12) #[true, true, true, true, true, true, false, false] ?_; exact nj_ (hJ1_2_3 (.slice Ao48 t961.length co48, .slice Ao47 y964.length co47, .slice Ao46 y967.length co46) _ ⟨(kr_ HO963.out), (kr_ HO966.out), (kr_ HO969.out), (bk_ BK960.out), (lb1_ HB.out GE960.out)⟩)
             ·
              skip; refine box_step ?hg (N := 6) ?hd (cs := #[.slice none 0 0, .slice none 0 0, .slice none 0 0, .int .i64 0, .int .i64 0]) (t := 30) ?hr ?_; (case hd => rfl); (case hg => rfl); (case hr => first | (go_simp; done) | (go_simp; rfl)); intro gb970 hg w45 hbox hb; replace HO966 := Aside0.mk (Kd.R_below (kr_ HO966.out) hb); replace HO969 := Aside0.mk (Kd.R_below (kr_ HO969.out) hb); have BK970 := Aside0.mk (hbox); have GW970 := Aside0.mk ((bz_ hg (lb1_ HB.out GE960.out))); have GE970 := Aside0.mk ((bz_ hg (lb1_ HB.out GE960.out))); replace HB := Aside0.mk (below_step (lb1_ HB.out GE960.out) hb); have NB960_970 := Aside0.mk ((by rw [hg]; exact Nat.ne_of_lt (blk_lt (g := gb960) (o := .cells #[.slice none 0 0, .slice none 0 0, .slice none 0 0, .int .i64 0, .int .i64 0] 30 (0, 0)) (bk_ BK960.out)) : gb960 ≠ gb970)); have NB970_960 := Aside0.mk ((by rw [hg]; exact Nat.ne_of_gt (blk_lt (g := gb960) (o := .cells #[.slice none 0 0, .slice none 0 0, .slice none 0 0, .int .i64 0, .int .i64 0] 30 (0, 0)) (bk_ BK960.out)) : gb970 ≠ gb960)); replace BK960 := Aside0.mk (bb_ (bk_ BK960.out) hb); clear hb hbox hg; refine hK.out _ _ trivial (fun hHeld => ?_); clear hK K; refine na_ ?_; exact nj_ (hJ2_3_6 (v965, v968, gb970) _ ⟨(kr_ HO966.out), (kr_ HO969.out), (bk_ BK960.out), (bk_ BK970.out), GW970.out, GE970.out, NB960_970.out, NB970_960.out, (lb2_ HB.out GE960.out GE970.out)⟩)
           ·
            skip; rintro ⟨v962, gb970⟩ w42 ⟨h0_, h1_, h2_, h3_, h4_, h5_, h6_, h7_⟩; (try dsimp only at h0_ h1_ h2_ h3_ h4_ h5_ h6_ h7_); have HO963 := Aside0.mk h0_; replace BK960 := Aside0.mk h1_; have BK970 := Aside0.mk h2_; have GW970 := Aside0.mk h3_; have GE970 := Aside0.mk h4_; have NB960_970 := Aside0.mk h5_; have NB970_960 := Aside0.mk h6_; replace HB := Aside0.mk h7_; clear h0_ h1_ h2_ h3_ h4_ h5_ h6_ h7_; have hHeld := trivial; refine nb_ ?_; refine two_ (i := 2) (j := 3) (Ni := some 9) (Nj := some 10) #[true, true, true, false, true, false, true, false] #[true, true, false, true, true, false, true, false] rfl rfl rfl rfl (two_of HT_.out (by kernel_rfl)) (by decide) (by decide) (fun K hK => ?_) (fun K hK => ?_)
            ·
             skip; refine Kd.R_make_step Kd.bool _ 4 (by rfl) (N := 9) rfl 23 _ _ rfl 8 rfl rfl Try.underlying23 (.bool false) 1 info4 rfl (by decide) (by omega) false (ok := fun _ => True) (okp := fun _ => True) rfl (fun _ hk => hk) trivial (by omega) (by omega) (Below.refl _ _) (Nat.le_refl _) ?_; intro v965 w43 ho44 hb hg_ hnew_; clear hg_ hnew_; replace ho44 := ry_ Ny964.out ho44; replace HO963 := Aside0.mk (Kd.R_below (kr_ HO963.out) hb); have HO966 := Aside0.mk (Kd.R_lower ho44 (below_size (lb2_ HB.out GE960.out GE970.out))); replace BK960 := Aside0.mk (bb_ (bk_ BK960.out) hb); replace BK970 := Aside0.mk (bb_ (bk_ BK970.out) hb); replace HB := Aside0.mk (below_step (lb2_ HB.out GE960.out GE970.out) hb); clear hb ho44; refine hK.out _ _ trivial (fun hHeld => ?_); clear hK K; refine na_ ?_; exact nj_ (hJ1_2_6 (v962, v965, gb970) _ ⟨(kr_ HO963.out), (kr_ HO966.out), (bk_ BK960.out), (bk_ BK970.out), GW970.out, GE970.out, NB960_970.out, NB970_960.out, (lb2_ HB.out GE960.out GE970.out)⟩)
            ·
             skip; refine Kd.R_make_step Kd.bool _ 4 (by rfl) (N := 10) rfl 23 _ _ rfl 8 rfl rfl Try.underlying23 (.bool false) 1 info4 rfl (by decide) (by omega) false (ok := fun _ => True) (okp := fun _ => True) rfl (fun _ hk => hk) trivial (by omega) (by omega) (Below.refl _ _) (Nat.le_refl _) ?_; intro v968 w43 ho44 hb hg_ hnew_; clear hg_ hnew_; replace ho44 := ry_ Ny967.out ho44; replace HO963 := Aside0.mk (Kd.R_below (kr_ HO963.out) hb); have HO969 := Aside0.mk (Kd.R_lower ho44 (below_size (lb2_ HB.out GE960.out GE970.out))); replace BK960 := Aside0.mk (bb_ (bk_ BK960.out) hb); replace BK970 := Aside0.mk (bb_ (bk_ BK970.out) hb); replace HB := Aside0.mk (below_step (lb2_ HB.out GE960.out GE970.out) hb); clear hb ho44; refine hK.out _ _ trivial (fun hHeld => ?_); clear hK K; refine na_ ?_; exact nj_ (hJ1_3_6 (v962, v968, gb970) _ ⟨(kr_ HO963.out), (kr_ HO969.out), (bk_ BK960.out), (bk_ BK970.out), GW970.out, GE970.out, NB960_970.out, NB970_960.out, (lb2_ HB.out GE960.out GE970.out)⟩)
          ·
           skip; rintro ⟨v962, v968⟩ w43 ⟨h0_, h1_, h2_, h3_⟩; (try dsimp only at h0_ h1_ h2_ h3_); have HO963 := Aside0.mk h0_; have HO969 := Aside0.mk h1_; replace BK960 := Aside0.mk h2_; replace HB := Aside0.mk h3_; clear h0_ h1_ h2_ h3_; have hHeld := trivial; refine nb_ ?_; refine two_ (i := 2) (j := 6) (Ni := some 9) (Nj := some 6) #[true, true, true, true, true, false, false, false] #[true, true, false, true, true, false, true, false] rfl rfl rfl rfl (two_of HT_.out (by kernel_rfl)) (by decide) (by decide) (fun K hK => ?_) (fun K hK => ?_)
           ·
            skip; refine Kd.R_make_step Kd.bool _ 4 (by rfl) (N := 9) rfl 23 _ _ rfl 8 rfl rfl Try.underlying23 (.bool false) 1 info4 rfl (by decide) (by omega) false (ok := fun _ => True) (okp := fun _ => True) rfl (fun _ hk => hk) trivial (by omega) (by omega) (Below.refl _ _) (Nat.le_refl _) ?_; intro v965 w44 ho45 hb hg_ hnew_; clear hg_ hnew_; replace ho45 := ry_ Ny964.out ho45; replace HO963 := Aside0.mk (Kd.R_below (kr_ HO963.out) hb); have HO966 := Aside0.mk (Kd.R_lower (Kd.R_new' ho45 (Kd.R_lt (kr_ HO969.out))) (below_size (lb1_ HB.out GE960.out))); replace HO969 := Aside0.mk (Kd.R_elder' (kr_ HO969.out) (Kd.R_base ho45) hb); replace BK960 := Aside0.mk (bb_ (bk_ BK960.out) hb); replace HB := Aside0.mk (below_step (lb1_ HB.out GE960.out) hb); clear hb ho45; obtain ⟨Ao46, co46, eo46⟩ := Kd.R_slice HO969.out
            (first | subst eo46 | (injection eo46 with f1_ f2_ f3_; have f4_ := f1_.symm; have f5_ := f3_.symm; clear f1_ f2_ f3_; subst f4_; subst f5_))
            obtain ⟨Ao47, co47, eo47⟩ := Kd.R_slice HO966.out
            (first | subst eo47 | (injection eo47 with f1_ f2_ f3_; have f4_ := f1_.symm; have f5_ := f3_.symm; clear f1_ f2_ f3_; subst f4_; subst f5_))
            obtain ⟨Ao48, co48, eo48⟩ := Kd.R_slice HO963.out
            (first | subst eo48 | (injection eo48 with f1_ f2_ f3_; have f4_ := f1_.symm; have f5_ := f3_.symm; clear f1_ f2_ f3_; subst f4_; subst f5_))
            refine hK.out _ _ trivial (fun hHeld => ?_); clear hK K; refine na_ ?_; refine pz_ HT_ 5 (some 12) #[true, true, true, true, true, true, false, false] ?_; exact nj_ (hJ1_2_3 (.slice Ao48 t961.length co48, .slice Ao47 y964.length co47, .slice Ao46 y967.length co46) _ ⟨(kr_ HO963.out), (krm_ HO966.out (fun _ hk => hk.2)), (krm_ HO969.out (fun _ hk => hk.2)), (bk_ BK960.out), (lb1_ HB.out GE960.out)⟩)
           ·
            skip; refine box_step ?hg (N := 6) ?hd (cs := #[.slice none 0 0, .slice none 0 0, .slice none 0 0, .int .i64 0, .int .i64 0]) (t := 30) ?hr ?_; (case hd => rfl); (case hg => rfl); (case hr => first | (go_simp; done) | (go_simp; rfl)); intro gb970 hg w44 hbox hb; replace HO963 := Aside0.mk (Kd.R_below (kr_ HO963.out) hb); replace HO969 := Aside0.mk (Kd.R_below (kr_ HO969.out) hb); have BK970 := Aside0.mk (hbox); have GW970 := Aside0.mk ((bz_ hg (lb1_ HB.out GE960.out))); have GE970 := Aside0.mk ((bz_ hg (lb1_ HB.out GE960.out))); replace HB := Aside0.mk (below_step (lb1_ HB.out GE960.out) hb); have NB960_970 := Aside0.mk ((by rw [hg]; exact Nat.ne_of_lt (blk_lt (g := gb960) (o := .cells #[.slice none 0 0, .slice none 0 0, .slice none 0 0, .int .i64 0, .int .i64 0] 30 (0, 0)) (bk_ BK960.out)) : gb960 ≠ gb970)); have NB970_960 := Aside0.mk ((by rw [hg]; exact Nat.ne_of_gt (blk_lt (g := gb960) (o := .cells #[.slice none 0 0, .slice none 0 0, .slice none 0 0, .int .i64 0, .int .i64 0] 30 (0, 0)) (bk_ BK960.out)) : gb970 ≠ gb960)); replace BK960 := Aside0.mk (bb_ (bk_ BK960.out) hb); clear hb hbox hg; refine hK.out _ _ trivial (fun hHeld => ?_); clear hK K; refine na_ ?_; exact nj_ (hJ1_3_6 (v962, v968, gb970) _ ⟨(kr_ HO963.out), (kr_ HO969.out), (bk_ BK960.out), (bk_ BK970.out), GW970.out, GE970.out, NB960_970.out, NB970_960.out, (lb2_ HB.out GE960.out GE970.out)⟩)
         ·
          skip; rintro ⟨v962, v965⟩ w43 ⟨h0_, h1_, h2_, h3_⟩; (try dsimp only at h0_ h1_ h2_ h3_); have HO963 := Aside0.mk h0_; have HO966 := Aside0.mk h1_; replace BK960 := Aside0.mk h2_; replace HB := Aside0.mk h3_; clear h0_ h1_ h2_ h3_; have hHeld := trivial; refine nb_ ?_; refine two_ (i := 3) (j := 6) (Ni := some 10) (Nj := some 6) #[true, true, true, true, true, false, false, false] #[true, true, true, false, true, false, true, false] rfl rfl rfl rfl (two_of HT_.out (by kernel_rfl)) (by decide) (by decide) (fun K hK => ?_) (fun K hK => ?_)
          ·
           skip; refine Kd.R_make_step Kd.bool _ 4 (by rfl) (N := 10) rfl 23 _ _ rfl 8 rfl rfl Try.underlying23 (.bool false) 1 info4 rfl (by decide) (by omega) false (ok := fun _ => True) (okp := fun _ => True) rfl (fun _ hk => hk) trivial (by omega) (by omega) (Below.refl _ _) (Nat.le_refl _) ?_; intro v968 w44 ho45 hb hg_ hnew_; clear hg_ hnew_; replace ho45 := ry_ Ny967.out ho45; replace HO963 := Aside0.mk (Kd.R_below (kr_ HO963.out) hb); have HO969 := Aside0.mk (Kd.R_lower (Kd.R_new' ho45 (Kd.R_lt (kr_ HO966.out))) (below_size (lb1_ HB.out GE960.out))); replace HO966 := Aside0.mk (Kd.R_elder' (kr_ HO966.out) (Kd.R_base ho45) hb); replace BK960 := Aside0.mk (bb_ (bk_ BK960.out) hb); replace HB := Aside0.mk (below_step (lb1_ HB.out GE960.out) hb); clear hb ho45; obtain ⟨Ao46, co46, eo46⟩ := Kd.R_slice HO969.out
           (first | subst eo46 | (injection eo46 with f1_ f2_ f3_; have f4_ := f1_.symm; have f5_ := f3_.symm; clear f1_ f2_ f3_; subst f4_; subst f5_))
           obtain ⟨Ao47, co47, eo47⟩ := Kd.R_slice HO966.out
           (first | subst eo47 | (injection eo47 with f1_ f2_ f3_; have f4_ := f1_.symm; have f5_ := f3_.symm; clear f1_ f2_ f3_; subst f4_; subst f5_))
           obtain ⟨Ao48, co48, eo48⟩ := Kd.R_slice HO963.out
           (first | subst eo48 | (injection eo48 with f1_ f2_ f3_; have f4_ := f1_.symm; have f5_ := f3_.symm; clear f1_ f2_ f3_; subst f4_; subst f5_))
           refine hK.out _ _ trivial (fun hHeld => ?_); clear hK K; refine na_ ?_; refine pz_ HT_ 5 (some 12) #[true, true, true, true, true, true, false, false] ?_; exact nj_ (hJ1_2_3 (.slice Ao48 t961.length co48, .slice Ao47 y964.length co47, .slice Ao46 y967.length co46) _ ⟨(kr_ HO963.out), (krm_ HO966.out (fun _ hk => hk.2)), (krm_ HO969.out (fun _ hk => hk.2)), (bk_ BK960.out), (lb1_ HB.out GE960.out)⟩)
          ·
           skip; refine box_step ?hg (N := 6) ?hd (cs := #[.slice none 0 0, .slice none 0 0, .slice none 0 0, .int .i64 0, .int .i64 0]) (t := 30) ?hr ?_; (case hd => rfl); (case hg => rfl); (case hr => first | (go_simp; done) | (go_simp; rfl)); intro gb970 hg w44 hbox hb; replace HO963 := Aside0.mk (Kd.R_below (kr_ HO963.out) hb); replace HO966 := Aside0.mk (Kd.R_below (kr_ HO966.out) hb); have BK970 := Aside0.mk (hbox); have GW970 := Aside0.mk ((bz_ hg (lb1_ HB.out GE960.out))); have GE970 := Aside0.mk ((bz_ hg (lb1_ HB.out GE960.out))); replace HB := Aside0.mk (below_step (lb1_ HB.out GE960.out) hb); have NB960_970 := Aside0.mk ((by rw [hg]; exact Nat.ne_of_lt (blk_lt (g := gb960) (o := .cells #[.slice none 0 0, .slice none 0 0, .slice none 0 0, .int .i64 0, .int .i64 0] 30 (0, 0)) (bk_ BK960.out)) : gb960 ≠ gb970)); have NB970_960 := Aside0.mk ((by rw [hg]; exact Nat.ne_of_gt (blk_lt (g := gb960) (o := .cells #[.slice none 0 0, .slice none 0 0, .slice none 0 0, .int .i64 0, .int .i64 0] 30 (0, 0)) (bk_ BK960.out)) : gb970 ≠ gb960)); replace BK960 := Aside0.mk (bb_ (bk_ BK960.out) hb); clear hb hbox hg; refine hK.out _ _ trivial (fun hHeld => ?_); clear hK K; refine na_ ?_; exact nj_ (hJ1_2_6 (v962, v965, gb970) _ ⟨(kr_ HO963.out), (kr_ HO966.out), (bk_ BK960.out), (bk_ BK970.out), GW970.out, GE970.out, NB960_970.out, NB970_960.out, (lb2_ HB.out GE960.out GE970.out)⟩)
        ·
         skip; rintro ⟨v965, v968, gb970⟩ w45 ⟨h0_, h1_, h2_, h3_, h4_, h5_, h6_, h7_, h8_⟩; (try dsimp only at h0_ h1_ h2_ h3_ h4_ h5_ h6_ h7_ h8_); have HO966 := Aside0.mk h0_; have HO969 := Aside0.mk h1_; replace BK960 := Aside0.mk h2_; have BK970 := Aside0.mk h3_; have GW970 := Aside0.mk h4_; have GE970 := Aside0.mk h5_; have NB960_970 := Aside0.mk h6_; have NB970_960 := Aside0.mk h7_; replace HB := Aside0.mk h8_; clear h0_ h1_ h2_ h3_ h4_ h5_ h6_ h7_ h8_; have hHeld := trivial; refine nb_ ?_; refine one_ (i := 1) (N := some 8) #[true, true, true, true, true, false, true, false] rfl rfl (one_of HT_.out (by kernel_rfl)) (by decide) (fun K hK => ?_); refine gs_ Try.func87 #[.slice A0 l0.length c0] ?_; (with_reducible refine (impl_Leg_87.calls _ _ l0 t961 _ ?side1 ?side2 A3.out).mono ?_); (case side1 => exact kc_ (Kd.C_below HR0.out HB.out)); (case side2 => exact HC0.out); rintro e w46 ⟨v962, rfl, ho0, hb⟩; refine ⟨_, rfl, ?_⟩; replace HO966 := Aside0.mk (Kd.R_below (kr_ HO966.out) hb); replace HO969 := Aside0.mk (Kd.R_below (kr_ HO969.out) hb); have HO963 := Aside0.mk (Kd.R_lower ho0 (below_size (lb2_ HB.out GE960.out GE970.out))); replace BK960 := Aside0.mk (bb_ (bk_ BK960.out) hb); replace BK970 := Aside0.mk (bb_ (bk_ BK970.out) hb); replace HB := Aside0.mk (below_step (lb2_ HB.out GE960.out GE970.out) hb); (try clear hb); (try clear hb2); (try clear hk); (try clear hi); (try clear ho0); obtain ⟨Ao47, co47, eo47⟩ := Kd.R_slice HO969.out
         (first | subst eo47 | (injection eo47 with f1_ f2_ f3_; have f4_ := f1_.symm; have f5_ := f3_.symm; clear f1_ f2_ f3_; subst f4_; subst f5_))
         obtain ⟨Ao48, co48, eo48⟩ := Kd.R_slice HO966.out
         (first | subst eo48 | (injection eo48 with f1_ f2_ f3_; have f4_ := f1_.symm; have f5_ := f3_.symm; clear f1_ f2_ f3_; subst f4_; subst f5_))
         obtain ⟨Ao49, co49, eo49⟩ := Kd.R_slice HO963.out
         (first | subst eo49 | (injection eo49 with f1_ f2_ f3_; have f4_ := f1_.symm; have f5_ := f3_.symm; clear f1_ f2_ f3_; subst f4_; subst f5_))
         refine hK.out _ _ trivial (fun hHeld => ?_); clear hK K; refine na_ ?_; refine pz_ HT_ 5 (some 12) #[true, true, true, true, true, true, true, false] ?_; exact nj_ (hJ1_2_3_6 (.slice Ao49 t961.length co49, .slice Ao48 y964.length co48, .slice Ao47 y967.length co47, gb970) _ ⟨(kr_ HO963.out), (kr_ HO966.out), (kr_ HO969.out), (bk_ BK960.out), (bk_ BK970.out), GW970.out, GE970.out, NB960_970.out, NB970_960.out, (lb2_ HB.out GE960.out GE970.out)⟩)
       ·
        skip; rintro ⟨v962, v968, gb970⟩ w44 ⟨h0_, h1_, h2_, h3_, h4_, h5_, h6_, h7_, h8_⟩; (try dsimp only at h0_ h1_ h2_ h3_ h4_ h5_ h6_ h7_ h8_); have HO963 := Aside0.mk h0_; have HO969 := Aside0.mk h1_; replace BK960 := Aside0.mk h2_; have BK970 := Aside0.mk h3_; have GW970 := Aside0.mk h4_; have GE970 := Aside0.mk h5_; have NB960_970 := Aside0.mk h6_; have NB970_960 := Aside0.mk h7_; replace HB := Aside0.mk h8_; clear h0_ h1_ h2_ h3_ h4_ h5_ h6_ h7_ h8_; have hHeld := trivial; refine nb_ ?_; refine one_ (i := 2) (N := some 9) #[true, true, true, true, true, false, true, false] rfl rfl (one_of HT_.out (by kernel_rfl)) (by decide) (fun K hK => ?_); refine Kd.R_make_step Kd.bool _ 4 (by rfl) (N := 9) rfl 23 _ _ rfl 8 rfl rfl Try.underlying23 (.bool false) 1 info4 rfl (by decide) (by omega) false (ok := fun _ => True) (okp := fun _ => True) rfl (fun _ hk => hk) trivial (by omega) (by omega) (Below.refl _ _) (Nat.le_refl _) ?_; intro v965 w45 ho46 hb hg_ hnew_; clear hg_ hnew_; replace ho46 := ry_ Ny964.out ho46; replace HO963 := Aside0.mk (Kd.R_below (kr_ HO963.out) hb); have HO966 := Aside0.mk (Kd.R_lower (Kd.R_new' ho46 (Kd.R_lt (kr_ HO969.out))) (below_size (lb2_ HB.out GE960.out GE970.out))); replace HO969 := Aside0.mk (Kd.R_elder' (kr_ HO969.out) (Kd.R_base ho46) hb); replace BK960 := Aside0.mk (bb_ (bk_ BK960.out) hb); replace BK970 := Aside0.mk (bb_ (bk_ BK970.out) hb); replace HB := Aside0.mk (below_step (lb2_ HB.out GE960.out GE970.out) hb); clear hb ho46; obtain ⟨Ao47, co47, eo47⟩ := Kd.R_slice HO969.out
        (first | subst eo47 | (injection eo47 with f1_ f2_ f3_; have f4_ := f1_.symm; have f5_ := f3_.symm; clear f1_ f2_ f3_; subst f4_; subst f5_))
        obtain ⟨Ao48, co48, eo48⟩ := Kd.R_slice HO966.out
        (first | subst eo48 | (injection eo48 with f1_ f2_ f3_; have f4_ := f1_.symm; have f5_ := f3_.symm; clear f1_ f2_ f3_; subst f4_; subst f5_))
        obtain ⟨Ao49, co49, eo49⟩ := Kd.R_slice HO963.out
        (first | subst eo49 | (injection eo49 with f1_ f2_ f3_; have f4_ := f1_.symm; have f5_ := f3_.symm; clear f1_ f2_ f3_; subst f4_; subst f5_))
        refine hK.out _ _ trivial (fun hHeld => ?_); clear hK K; refine na_ ?_; refine pz_ HT_ 5 (some 12) #[true, true, true, true, true, true, true, false] ?_; exact nj_ (hJ1_2_3_6 (.slice Ao49 t961.length co49, .slice Ao48 y964.length co48, .slice Ao47 y967.length co47, gb970) _ ⟨(kr_ HO963.out), (krm_ HO966.out (fun _ hk => hk.2)), (krm_ HO969.out (fun _ hk => hk.2)), (bk_ BK960.out), (bk_ BK970.out), GW970.out, GE970.out, NB960_970.out, NB970_960.out, (lb2_ HB.out GE960.out GE970.out)⟩)
      ·
       skip
       rintro ⟨v962, v965, gb970⟩ w44 ⟨h0_, h1_, h2_, h3_, h4_, h5_, h6_, h7_, h8_⟩
       (try dsimp only at h0_ h1_ h2_ h3_ h4_ h5_ h6_ h7_ h8_)
       have HO963 := Aside0.mk h0_
       have HO966 := Aside0.mk h1_
       replace BK960 := Aside0.mk h2_
       have BK970 := Aside0.mk h3_
       have GW970 := Aside0.mk h4_
       have GE970 := Aside0.mk h5_
       have NB960_970 := Aside0.mk h6_
       have NB970_960 := Aside0.mk h7_
       replace HB := Aside0.mk h8_
       clear h0_ h1_ h2_ h3_ h4_ h5_ h6_ h7_ h8_
       have hHeld := trivial
       refine nb_ ?_
       refine one_ (i := 3) (N := some 10) #[true, true, true, true, true, false, true, false] rfl rfl (one_of HT_.out (by kernel_rfl)) (by decide) (fun K hK => ?_)
       refine Kd.R_make_step Kd.bool _ 4 (by rfl) (N := 10) rfl 23 _ _ rfl 8 rfl rfl Try.underlying23 (.bool false) 1 info4 rfl (by decide) (by omega) false (ok := fun _ => True) (okp := fun _ => True) rfl (fun _ hk => hk) trivial (by omega) (by omega) (Below.refl _ _) (Nat.le_refl _) ?_
       intro v968 w45 ho46 hb hg_ hnew_
       clear hg_ hnew_
       replace ho46 := ry_ Ny967.out ho46
       replace HO963 := Aside0.mk (Kd.R_below (kr_ HO963.out) hb)
       have HO969 := Aside0.mk (Kd.R_lower (Kd.R_new' ho46 (Kd.R_lt (kr_ HO966.out))) (below_size (lb2_ HB.out GE960.out GE970.out)))
       replace HO966 := Aside0.mk (Kd.R_elder' (kr_ HO966.out) (Kd.R_base ho46) hb)
       replace BK960 := Aside0.mk (bb_ (bk_ BK960.out) hb)
       replace BK970 := Aside0.mk (bb_ (bk_ BK970.out) hb)
       replace HB := Aside0.mk (below_step (lb2_ HB.out GE960.out GE970.out) hb)
       clear hb ho46
       obtain ⟨Ao47, co47, eo47⟩ := Kd.R_slice HO969.out
       (first | subst eo47 | (injection eo47 with f1_ f2_ f3_; have f4_ := f1_.symm; have f5_ := f3_.symm; clear f1_ f2_ f3_; subst f4_; subst f5_))
       obtain ⟨Ao48, co48, eo48⟩ := Kd.R_slice HO966.out
       (first | subst eo48 | (injection eo48 with f1_ f2_ f3_; have f4_ := f1_.symm; have f5_ := f3_.symm; clear f1_ f2_ f3_; subst f4_; subst f5_))
       obtain ⟨Ao49, co49, eo49⟩ := Kd.R_slice HO963.out
       (first | subst eo49 | (injection eo49 with f1_ f2_ f3_; have f4_ := f1_.symm; have f5_ := f3_.symm; clear f1_ f2_ f3_; subst f4_; subst f5_))
       refine hK.out _ _ trivial (fun hHeld => ?_)
       clear hK K
       refine na_ ?_
       refine pz_ HT_ 5 (some 12) #[true, true, true, true, true, true, true, false] ?_
       exact nj_ (hJ1_2_3_6 (.slice Ao49 t961.length co49, .slice Ao48 y964.length co48, .slice Ao47 y967.length co47, gb970) _ ⟨(kr_ HO963.out), (krm_ HO966.out (fun _ hk => hk.2)), (krm_ HO969.out (fun _ hk => hk.2)), (bk_ BK960.out), (bk_ BK970.out), GW970.out, GE970.out, NB960_970.out, NB970_960.out, (lb2_ HB.out GE960.out GE970.out)⟩)
     ·
      skip
      rintro ⟨v962, v965, v968⟩ w48 ⟨h0_, h1_, h2_, h3_, h4_⟩
      (try dsimp only at h0_ h1_ h2_ h3_ h4_)
      have HO963 := Aside0.mk h0_
      have HO966 := Aside0.mk h1_
      have HO969 := Aside0.mk h2_
      replace BK960 := Aside0.mk h3_
      replace HB := Aside0.mk h4_
      clear h0_ h1_ h2_ h3_ h4_
      have hHeld := trivial
      obtain ⟨Ao49, co49, eo49⟩ := Kd.R_slice HO969.out
      (first | subst eo49 | (injection eo49 with f1_ f2_ f3_; have f4_ := f1_.symm; have f5_ := f3_.symm; clear f1_ f2_ f3_; subst f4_; subst f5_))
      obtain ⟨Ao50, co50, eo50⟩ := Kd.R_slice HO966.out
      (first | subst eo50 | (injection eo50 with f1_ f2_ f3_; have f4_ := f1_.symm; have f5_ := f3_.symm; clear f1_ f2_ f3_; subst f4_; subst f5_))
      obtain ⟨Ao51, co51, eo51⟩ := Kd.R_slice HO963.out
      (first | subst eo51 | (injection eo51 with f1_ f2_ f3_; have f4_ := f1_.symm; have f5_ := f3_.symm; clear f1_ f2_ f3_; subst f4_; subst f5_))
      refine nb_ ?_
      refine one_ (i := 6) (N := some 6) #[true, true, true, true, true, true, true, false] rfl rfl (one_of HT_.out (by kernel_rfl)) (by decide) (fun K hK => ?_)
      refine box_step ?hg (N := 6) ?hd (cs := #[.slice none 0 0, .slice none 0 0, .slice none 0 0, .int .i64 0, .int .i64 0]) (t := 30) ?hr ?_; (case hd => rfl); (case hg => rfl); (case hr => first | (go_simp; done) | (go_simp; rfl))
      intro gb970 hg w52 hbox hb
      replace HO963 := Aside0.mk (Kd.R_below (kr_ HO963.out) hb)
      replace HO966 := Aside0.mk (Kd.R_below (kr_ HO966.out) hb)
      replace HO969 := Aside0.mk (Kd.R_below (kr_ HO969.out) hb)
      have BK970 := Aside0.mk (hbox)
      have GW970 := Aside0.mk ((bz_ hg (lb1_ HB.out GE960.out)))
      have GE970 := Aside0.mk ((bz_ hg (lb1_ HB.out GE960.out)))
      replace HB := Aside0.mk (below_step (lb1_ HB.out GE960.out) hb)
      have NB960_970 := Aside0.mk ((by rw [hg]; exact Nat.ne_of_lt (blk_lt (g := gb960) (o := .cells #[.slice none 0 0, .slice none 0 0, .slice none 0 0, .int .i64 0, .int .i64 0] 30 (0, 0)) (bk_ BK960.out)) : gb960 ≠ gb970))
      have NB970_960 := Aside0.mk ((by rw [hg]; exact Nat.ne_of_gt (blk_lt (g := gb960) (o := .cells #[.slice none 0 0, .slice none 0 0, .slice none 0 0, .int .i64 0, .int .i64 0] 30 (0, 0)) (bk_ BK960.out)) : gb970 ≠ gb960))
      replace BK960 := Aside0.mk (bb_ (bk_ BK960.out) hb)
      clear hb hbox hg
      refine hK.out _ _ trivial (fun hHeld => ?_)
      clear hK K
      refine na_ ?_
      exact nj_ (hJ1_2_3_6 (.slice Ao51 t961.length co51, .slice Ao50 y964.length co50, .slice Ao49 y967.length co49, gb970) _ ⟨(kr_ HO963.out), (kr_ HO966.out), (kr_ HO969.out), (bk_ BK960.out), (bk_ BK970.out), GW970.out, GE970.out, NB960_970.out, NB970_960.out, (lb2_ HB.out GE960.out GE970.out)⟩)
    rintro ⟨v962, v965, v968, gb970⟩ w49 ⟨h0_, h1_, h2_, h3_, h4_, h5_, h6_, h7_, h8_, h9_⟩
    (try dsimp only at h0_ h1_ h2_ h3_ h4_ h5_ h6_ h7_ h8_ h9_)
    have HO963 := Aside0.mk h0_
    have HO966 := Aside0.mk h1_
    have HO969 := Aside0.mk h2_
    replace BK960 := Aside0.mk h3_
    have BK970 := Aside0.mk h4_
    have GW970 := Aside0.mk h5_
    have GE970 := Aside0.mk h6_
    have NB960_970 := Aside0.mk h7_
    have NB970_960 := Aside0.mk h8_
    replace HB := Aside0.mk h9_
    clear h0_ h1_ h2_ h3_ h4_ h5_ h6_ h7_ h8_ h9_
    have hHeld := trivial
    obtain ⟨Ao50, co50, eo50⟩ := Kd.R_slice HO969.out
    (first | subst eo50 | (injection eo50 with f1_ f2_ f3_; have f4_ := f1_.symm; have f5_ := f3_.symm; clear f1_ f2_ f3_; subst f4_; subst f5_))
    obtain ⟨Ao51, co51, eo51⟩ := Kd.R_slice HO966.out
    (first | subst eo51 | (injection eo51 with f1_ f2_ f3_; have f4_ := f1_.symm; have f5_ := f3_.symm; clear f1_ f2_ f3_; subst f4_; subst f5_))
    obtain ⟨Ao52, co52, eo52⟩ := Kd.R_slice HO963.out
    (first | subst eo52 | (injection eo52 with f1_ f2_ f3_; have f4_ := f1_.symm; have f5_ := f3_.symm; clear f1_ f2_ f3_; subst f4_; subst f5_))
    refine nb_ ?_
    refine one_ (i := 7) (N := none) #[true, true, true, true, true, true, true, true] rfl rfl (one_of HT_.out (by kernel_rfl)) (by decide) (fun K hK => ?_)
    have hs53 : w49.cell? ⟨gb970, 0, none⟩ = some (.slice none 0 0) := (blk_cell BK970.out 0).trans rfl
    have hfs53 := blk_frozen BK970.out 0
    have hns53_0 := NB960_970.out
    have hms53_0 := NB970_960.out
    have hs54 : w49.cell? ⟨gb970, 1, none⟩ = some (.slice none 0 0) := (blk_cell BK970.out 1).trans rfl
    have hfs54 := blk_frozen BK970.out 1
    have hns54_0 := NB960_970.out
    have hms54_0 := NB970_960.out
    have hs55 : w49.cell? ⟨gb970, 2, none⟩ = some (.slice none 0 0) := (blk_cell BK970.out 2).trans rfl
    have hfs55 := blk_frozen BK970.out 2
    have hns55_0 := NB960_970.out
    have hms55_0 := NB970_960.out
    have hs56 : w49.cell? ⟨gb970, 3, none⟩ = some (.int .i64 0) := (blk_cell BK970.out 3).trans rfl
    have hfs56 := blk_frozen BK970.out 3
    have hns56_0 := NB960_970.out
    have hms56_0 := NB970_960.out
    have hs57 : w49.cell? ⟨gb970, 4, none⟩ = some (.int .i64 0) := (blk_cell BK970.out 4).trans rfl
    have hfs57 := blk_frozen BK970.out 4
    have hns57_0 := NB960_970.out
    have hms57_0 := NB970_960.out
    refine skip_ (w1 := ?_) (by rfl) rfl ?_ ?_
    rotate_left
    ·
     go_simp
     rfl
    refine hK.out _ _ trivial (fun hHeld => ?_)
    clear hK K
    refine done_ (done_of HT_.out (by kernel_rfl)) ?_
    have n0_ : Aside0 (Kd.R k37 37 (((((w49.setCell ⟨gb970, 0, none⟩ (.slice Ao52 t961.length co52)).setCell ⟨gb970, 1, none⟩ (.slice Ao51 y964.length co51)).setCell ⟨gb970, 2, none⟩ (.slice Ao50 y967.length co50)).setCell ⟨gb970, 3, none⟩ (.int .i64 0)).setCell ⟨gb970, 4, none⟩ (.int .i64 a1)) w.heap.size (fun _ => True) (.slice Ao52 t961.length co52) t961) := ⟨by (with_reducible repeat (first | apply Kd.R_alloc | apply Kd.R_drewN | apply Kd.R_drew)); exact Kd.R_mono (Kd.R_far (p := ⟨gb970, 4, none⟩) (Kd.R_far (p := ⟨gb970, 3, none⟩) (Kd.R_far (p := ⟨gb970, 2, none⟩) (Kd.R_far (p := ⟨gb970, 1, none⟩) (Kd.R_far (p := ⟨gb970, 0, none⟩) (Kd.R_types HO963.out BK970.out (by decide)) (fun _ hk => hk.2) (.slice Ao52 t961.length co52)) (fun _ hk => hk.2) (.slice Ao51 y964.length co51)) (fun _ hk => hk.2) (.slice Ao50 y967.length co50)) (fun _ hk => hk.2) (.int .i64 0)) (fun _ hk => hk.2) (.int .i64 a1)) (fun _ hk => trivial)⟩
    have n1_ : Aside0 (Kd.R Kd.bool 4 (((((w49.setCell ⟨gb970, 0, none⟩ (.slice Ao52 t961.length co52)).setCell ⟨gb970, 1, none⟩ (.slice Ao51 y964.length co51)).setCell ⟨gb970, 2, none⟩ (.slice Ao50 y967.length co50)).setCell ⟨gb970, 3, none⟩ (.int .i64 0)).setCell ⟨gb970, 4, none⟩ (.int .i64 a1)) w.heap.size (fun k_ => some k_ ≠ (.slice Ao50 y967.length co50 : Value).ownBlock) (.slice Ao51 y964.length co51) y964) := ⟨by (with_reducible repeat (first | apply Kd.R_alloc | apply Kd.R_drewN | apply Kd.R_drew)); exact Kd.R_mono (Kd.R_far (p := ⟨gb970, 4, none⟩) (Kd.R_far (p := ⟨gb970, 3, none⟩) (Kd.R_far (p := ⟨gb970, 2, none⟩) (Kd.R_far (p := ⟨gb970, 1, none⟩) (Kd.R_far (p := ⟨gb970, 0, none⟩) (Kd.R_types HO966.out BK970.out (by decide)) (fun _ hk => hk.2) (.slice Ao52 t961.length co52)) (fun _ hk => hk.2) (.slice Ao51 y964.length co51)) (fun _ hk => hk.2) (.slice Ao50 y967.length co50)) (fun _ hk => hk.2) (.int .i64 0)) (fun _ hk => hk.2) (.int .i64 a1)) (fun _ hk => hk.1)⟩
    have n2_ : Aside0 (Kd.R Kd.bool 4 (((((w49.setCell ⟨gb970, 0, none⟩ (.slice Ao52 t961.length co52)).setCell ⟨gb970, 1, none⟩ (.slice Ao51 y964.length co51)).setCell ⟨gb970, 2, none⟩ (.slice Ao50 y967.length co50)).setCell ⟨gb970, 3, none⟩ (.int .i64 0)).setCell ⟨gb970, 4, none⟩ (.int .i64 a1)) w.heap.size (fun k_ => some k_ ≠ (.slice Ao51 y964.length co51 : Value).ownBlock) (.slice Ao50 y967.length co50) y967) := ⟨by (with_reducible repeat (first | apply Kd.R_alloc | apply Kd.R_drewN | apply Kd.R_drew)); exact Kd.R_mono (Kd.R_far (p := ⟨gb970, 4, none⟩) (Kd.R_far (p := ⟨gb970, 3, none⟩) (Kd.R_far (p := ⟨gb970, 2, none⟩) (Kd.R_far (p := ⟨gb970, 1, none⟩) (Kd.R_far (p := ⟨gb970, 0, none⟩) (Kd.R_types HO969.out BK970.out (by decide)) (fun _ hk => hk.2) (.slice Ao52 t961.length co52)) (fun _ hk => hk.2) (.slice Ao51 y964.length co51)) (fun _ hk => hk.2) (.slice Ao50 y967.length co50)) (fun _ hk => hk.2) (.int .i64 0)) (fun _ hk => hk.2) (.int .i64 a1)) (fun _ hk => hk.1)⟩
    have n3_ : Aside0 ((((((w49.setCell ⟨gb970, 0, none⟩ (.slice Ao52 t961.length co52)).setCell ⟨gb970, 1, none⟩ (.slice Ao51 y964.length co51)).setCell ⟨gb970, 2, none⟩ (.slice Ao50 y967.length co50)).setCell ⟨gb970, 3, none⟩ (.int .i64 0)).setCell ⟨gb970, 4, none⟩ (.int .i64 a1)).heap[gb960]? = some (.cells #[.slice none 0 0, .slice none 0 0, .slice none 0 0, .int .i64 0, .int .i64 0] 30 (0, 0))) := ⟨by (with_reducible repeat (first | refine blk_drewN ?_ _ | refine blk_drew ?_ | refine blk_alloc ?_ _)); refine blk_far ?_ NB960_970.out _; (with_reducible repeat (first | refine blk_drewN ?_ _ | refine blk_drew ?_ | refine blk_alloc ?_ _)); refine blk_far ?_ NB960_970.out _; (with_reducible repeat (first | refine blk_drewN ?_ _ | refine blk_drew ?_ | refine blk_alloc ?_ _)); refine blk_far ?_ NB960_970.out _; (with_reducible repeat (first | refine blk_drewN ?_ _ | refine blk_drew ?_ | refine blk_alloc ?_ _)); refine blk_far ?_ NB960_970.out _; (with_reducible repeat (first | refine blk_drewN ?_ _ | refine blk_drew ?_ | refine blk_alloc ?_ _)); refine blk_far ?_ NB960_970.out _; (with_reducible repeat (first | refine blk_drewN ?_ _ | refine blk_drew ?_ | refine blk_alloc ?_ _)); exact BK960.out⟩
    have n4_ : Aside0 ((((((w49.setCell ⟨gb970, 0, none⟩ (.slice Ao52 t961.length co52)).setCell ⟨gb970, 1, none⟩ (.slice Ao51 y964.length co51)).setCell ⟨gb970, 2, none⟩ (.slice Ao50 y967.length co50)).setCell ⟨gb970, 3, none⟩ (.int .i64 0)).setCell ⟨gb970, 4, none⟩ (.int .i64 a1)).heap[gb970]? = some (.cells #[.slice Ao52 t961.length co52, .slice Ao51 y964.length co51, .slice Ao50 y967.length co50, .int .i64 0, .int .i64 a1] 30 (0, 0))) := ⟨by (with_reducible repeat (first | refine blk_drewN ?_ _ | refine blk_drew ?_ | refine blk_alloc ?_ _)); refine blk_put (cs := #[.slice Ao52 t961.length co52, .slice Ao51 y964.length co51, .slice Ao50 y967.length co50, .int .i64 0, .int .i64 0]) ?_ 4 _ rfl; (with_reducible repeat (first | refine blk_drewN ?_ _ | refine blk_drew ?_ | refine blk_alloc ?_ _)); refine blk_put (cs := #[.slice Ao52 t961.length co52, .slice Ao51 y964.length co51, .slice Ao50 y967.length co50, .int .i64 0, .int .i64 0]) ?_ 3 _ rfl; (with_reducible repeat (first | refine blk_drewN ?_ _ | refine blk_drew ?_ | refine blk_alloc ?_ _)); refine blk_put (cs := #[.slice Ao52 t961.length co52, .slice Ao51 y964.length co51, .slice none 0 0, .int .i64 0, .int .i64 0]) ?_ 2 _ rfl; (with_reducible repeat (first | refine blk_drewN ?_ _ | refine blk_drew ?_ | refine blk_alloc ?_ _)); refine blk_put (cs := #[.slice Ao52 t961.length co52, .slice none 0 0, .slice none 0 0, .int .i64 0, .int .i64 0]) ?_ 1 _ rfl; (with_reducible repeat (first | refine blk_drewN ?_ _ | refine blk_drew ?_ | refine blk_alloc ?_ _)); refine blk_put (cs := #[.slice none 0 0, .slice none 0 0, .slice none 0 0, .int .i64 0, .int .i64 0]) ?_ 0 _ rfl; (with_reducible repeat (first | refine blk_drewN ?_ _ | refine blk_drew ?_ | refine blk_alloc ?_ _)); exact BK970.out⟩
    have n5_ : Aside0 (Below w.heap.size w (((((w49.setCell ⟨gb970, 0, none⟩ (.slice Ao52 t961.length co52)).setCell ⟨gb970, 1, none⟩ (.slice Ao51 y964.length co51)).setCell ⟨gb970, 2, none⟩ (.slice Ao50 y967.length co50)).setCell ⟨gb970, 3, none⟩ (.int .i64 0)).setCell ⟨gb970, 4, none⟩ (.int .i64 a1))) := ⟨lb2_ HB.out GE960.out GE970.out⟩
    (try clear HO963)
    (try clear HO966)
    (try clear HO969)
    (try clear BK960)
    (try clear BK970)
    (try clear HB)
    generalize (((((w49.setCell ⟨gb970, 0, none⟩ (.slice Ao52 t961.length co52)).setCell ⟨gb970, 1, none⟩ (.slice Ao51 y964.length co51)).setCell ⟨gb970, 2, none⟩ (.slice Ao50 y967.length co50)).setCell ⟨gb970, 3, none⟩ (.int .i64 0)).setCell ⟨gb970, 4, none⟩ (.int .i64 a1)) = w58 at n0_ n1_ n2_ n3_ n4_ n5_ ⊢
    have HO963 := n0_
    have HO966 := n1_
    have HO969 := n2_
    have BK960 := n3_
    have BK970 := n4_
    have HB := n5_
    clear n0_ n1_ n2_ n3_ n4_ n5_
    have hnb59 := NB970_960.out
    have hnc59 := NB960_970.out
    obtain ⟨hcz60_0, hcz60_1, hcz60_2, hcz60_3, hcz60_4⟩ := cz5_ BK970.out
    obtain ⟨hfz60_0, hfz60_1, hfz60_2, hfz60_3, hfz60_4⟩ := fz5_ BK970.out
    have p6 : 0 ≤ (0 : Int) := (by omega)
    have q6 : (0 : Int) < ((y964.length : Int) : Int) := dt_
    have qi6 : (0 < y964.length) = True := eq_true (by omega)
    obtain ⟨go6, co6, eo6, gb6, gl6, cl6, HG6⟩ := Kd.R_form HO966.out (by omega)
    (first | cases eo6 | (injection eo6 with ea_ en_ ec_; (first | subst ea_ | (injection ea_ with ea_; subst ea_)); subst ec_; clear en_))
    have GB6 := Aside0.mk gb6
    have GG6 := Aside0.mk HG6
    clear gb6 gl6 HG6
    obtain ⟨hx6_0, hf6_0⟩ := Kd.R_celln false HO966.out (0 : Int) p6 q6
    (try rw [show ((0 : Int)).toNat = 0 from rfl] at hx6_0)
    (try simp only [Nat.reduceMul, Nat.zero_mul, Nat.zero_add, Nat.reduceAdd] at hx6_0)
    (try rw [show ((0 : Int)).toNat = 0 from rfl] at hf6_0)
    (try simp only [Nat.reduceMul, Nat.zero_mul, Nat.zero_add, Nat.reduceAdd] at hf6_0)
    replace p6 := eq_true p6
    replace q6 := eq_true q6
    obtain ⟨hy61_, hz61_⟩ := Kd.R_celln false HO966.out (0 : Int) (by omega) (dt_)
    (try simp only [Int.reduceToNat, Int.toNat_zero, Int.toNat_ofNat, Nat.reduceMul, Nat.zero_mul, Nat.zero_add] at hy61_ hz61_)
    (try rw [show ((0 : Int)).toNat = 0 from rfl] at hy61_)
    (try rw [show ((0 : Int)).toNat = 0 from rfl] at hz61_)
    have HP61 := Kd.R_putg HO966.out (0 : Int) true
    try go_wp2_with (first | ((with_reducible refine gate_store (t := 4) (p := 15) rfl ?_); refine store_event (t := 4) (p := 15) (v := ?vo_w62) (w1 := (w58.setCell ⟨go6, (0 : Int).toNat, none⟩ (.bool true))) ?hg ?ho ?hn ?hr ?_; (case ho => rfl); (case hg => rfl); (case hn => rfl); (case hr => first | (go_simp; done) | (go_simp; rfl)); intro w62 hw; have hg : w58.grownBy w62 (some go6) := (by rw [hw]; exact HP61.2); have hp_ : Kd.R Kd.bool 4 w62 w.heap.size (fun k_ => some k_ ≠ (.slice Ao50 y967.length co50 : Value).ownBlock) (.slice (some ⟨go6, 0, none⟩) y964.length co51) y971 := (by rw [hw, Ny971.out]; exact HP61.1); clear HP61; replace BK960 := Aside0.mk (blk_grown (g := gb960) (o := .cells #[.slice none 0 0, .slice none 0 0, .slice none 0 0, .int .i64 0, .int .i64 0] 30 (0, 0)) (bk_ BK960.out) hg (Kd.R_ne HO966.out BK960.out (by decide))); replace HO963 := Aside0.mk (Kd.R_over' (v := (.slice (some ⟨go6, 0, none⟩) y964.length co51)) (kr_ HO963.out) (Kd.R_typed HO966.out) (by decide) hg); replace HO969 := Aside0.mk (Kd.R_after (v := (.slice (some ⟨go6, 0, none⟩) y964.length co51)) (v1 := (.slice (some ⟨go6, 0, none⟩) y964.length co51)) (ok := (fun _ => True)) (krm_ HO969.out (fun _ hk => ⟨trivial, hk⟩)) hg (.inl rfl)); replace BK970 := Aside0.mk (blk_grown (g := gb970) (o := .cells #[.slice Ao52 t961.length co52, .slice (some ⟨go6, 0, none⟩) y964.length co51, .slice Ao50 y967.length co50, .int .i64 0, .int .i64 a1] 30 (0, 0)) (bk_ BK970.out) hg (Kd.R_ne HO966.out BK970.out (by decide))); replace HO966 := Aside0.mk (hp_); replace HB := Aside0.mk ((by rw [hw]; exact below_set (HB.out) GB6.out : Below w.heap.size w w62)); clear hg hw hp_; obtain ⟨hcz63_0, hcz63_1, hcz63_2, hcz63_3, hcz63_4⟩ := cz5_ BK970.out; obtain ⟨hfz63_0, hfz63_1, hfz63_2, hfz63_3, hfz63_4⟩ := fz5_ BK970.out) | ((with_reducible refine gate_callee (f := 18) rfl ?_); refine goesL_ (some 17) rfl rfl Try.func18 (by kernel_rfl) rfl #[.agg #[.slice Ao52 t961.length co52, .slice (some ⟨go6, 0, none⟩) y971.length co51, .slice Ao50 y967.length co50, .int .i64 0, .int .i64 a1]] rfl (by (try simp only [List.map_toArray, List.map_cons, List.map_nil]); first | done | (rw [show y971.length = y964.length from (Kd.R_reads' HO966.out).1.symm] <;> rfl) | rfl | (simp only [List.length_drop, List.length_take]; rfl)) ?_; (with_reducible refine (impl_IsExploration.calls k _ _ t961 _ _ y971 _ _ y967 0 a1 false _ ?side1 ?side2 ?side3 ?side4 ?side5 ?side6 A7.out).mono ?_); (case side1 => exact kc_ (Kd.R_reads' HO963.out).2.2); (case side2 => exact (Kd.R_reads' HO963.out).2.1); (case side3 => exact kc_ (Kd.R_reads' HO966.out).2.2); (case side4 => rw [show y971.length = y964.length from (Kd.R_reads' HO966.out).1.symm]; exact (Kd.R_reads' HO966.out).2.1); (case side5 => exact kc_ (Kd.R_reads' HO969.out).2.2); (case side6 => exact (Kd.R_reads' HO969.out).2.1); rintro e w64 ⟨rfl, hb⟩; refine ⟨_, rfl, ?_⟩; replace HO963 := Aside0.mk (Kd.R_below (kr_ HO963.out) hb); replace HO966 := Aside0.mk (Kd.R_below (kr_ HO966.out) hb); replace HO969 := Aside0.mk (Kd.R_below (kr_ HO969.out) hb); replace BK960 := Aside0.mk (bb_ (bk_ BK960.out) hb); replace BK970 := Aside0.mk (bb_ (bk_ BK970.out) hb); replace HB := Aside0.mk (below_step (lb2_ HB.out GE960.out GE970.out) hb); (try clear hb); (try clear hb2); (try clear hk); (try clear hi); obtain ⟨hcz65_0, hcz65_1, hcz65_2, hcz65_3, hcz65_4⟩ := cz5_ BK960.out; obtain ⟨hfz65_0, hfz65_1, hfz65_2, hfz65_3, hfz65_4⟩ := fz5_ BK960.out))
    refine bodyPost_ret (results_ct rfl _ _ gb960 30 #[.slice none 0 0, .slice none 0 0, .slice none 0 0, .int .i64 0, .int .i64 0] (0, 0) _ rfl (by (with_reducible repeat (first | refine blk_drewN ?_ _ | refine blk_drew ?_ | refine blk_alloc ?_ _)); refine blk_put (cs := #[.slice none 0 0, .slice none 0 0, .slice none 0 0, .int .i64 0, .int .i64 0]) ?_ 4 _ rfl; (with_reducible repeat (first | refine blk_drewN ?_ _ | refine blk_drew ?_ | refine blk_alloc ?_ _)); refine blk_put (cs := #[.slice none 0 0, .slice none 0 0, .slice none 0 0, .int .i64 0, .int .i64 0]) ?_ 3 _ rfl; (with_reducible repeat (first | refine blk_drewN ?_ _ | refine blk_drew ?_ | refine blk_alloc ?_ _)); refine blk_put (cs := #[.slice none 0 0, .slice none 0 0, .slice none 0 0, .int .i64 0, .int .i64 0]) ?_ 2 _ rfl; (with_reducible repeat (first | refine blk_drewN ?_ _ | refine blk_drew ?_ | refine blk_alloc ?_ _)); refine blk_put (cs := #[.slice none 0 0, .slice none 0 0, .slice none 0 0, .int .i64 0, .int .i64 0]) ?_ 1 _ rfl; (with_reducible repeat (first | refine blk_drewN ?_ _ | refine blk_drew ?_ | refine blk_alloc ?_ _)); refine blk_put (cs := #[.slice none 0 0, .slice none 0 0, .slice none 0 0, .int .i64 0, .int .i64 0]) ?_ 0 _ rfl; (with_reducible repeat (first | refine blk_drewN ?_ _ | refine blk_drew ?_ | refine blk_alloc ?_ _)); exact BK960.out) Try.underlying30 rfl (by kernel_rfl)) rfl ?_
    exact ⟨_, _, _, rr_, by first | exact Kd.R_nil _ _ _ _ _ | exact Kd.N_nil _ _ _ _ _ | exact Kd.V_nil _ _ _ _ _ | exact Kd.Q_nil _ _ _ _ _ | exact Kd.S_nil _ _ _ _ _, by first | exact Kd.R_nil _ _ _ _ _ | exact Kd.N_nil _ _ _ _ _ | exact Kd.V_nil _ _ _ _ _ | exact Kd.Q_nil _ _ _ _ _ | exact Kd.S_nil _ _ _ _ _, by first | exact Kd.R_nil _ _ _ _ _ | exact Kd.N_nil _ _ _ _ _ | exact Kd.V_nil _ _ _ _ _ | exact Kd.Q_nil _ _ _ _ _ | exact Kd.S_nil _ _ _ _ _, lb2_ HB.out GE960.out GE970.out⟩
  ·
   rw [if_neg c5] at H
   exact absurd H (by simp)
 ·
  rw [if_neg c4] at H
  exact absurd H (by simp)
def laws_markLegS.l0 : Nat → List (S37) → Int → Int → Option (Int × (List (S37)))
 | 0, _, _, _ => none
 | k + 1, x0, x1, x5 => if x5 < (x0.length : Int) then (if 0 ≤ x5 then ((some (x0.set (x5 : Int).toNat (⟨x1, (rd_T37 x0 x5).f1, (rd_T37 x0 x5).f2, (rd_T37 x0 x5).f3, (rd_T37 x0 x5).f4⟩ : S37) : List (S37))).bind fun y1130 => ((some (y1130.set (x5 : Int).toNat (⟨(rd_T37 y1130 x5).f0, wrap64 (x1 + 1), (rd_T37 y1130 x5).f2, (rd_T37 y1130 x5).f3, (rd_T37 y1130 x5).f4⟩ : S37) : List (S37))).bind fun y1131 => ((some (y1131.set (x5 : Int).toNat (⟨(rd_T37 y1131 x5).f0, (rd_T37 y1131 x5).f1, wrap64 ((wrap64 (x1 + 1)) + 1), (rd_T37 y1131 x5).f3, (rd_T37 y1131 x5).f4⟩ : S37) : List (S37))).bind fun y1132 => ((some (y1132.set (x5 : Int).toNat (⟨(rd_T37 y1132 x5).f0, (rd_T37 y1132 x5).f1, (rd_T37 y1132 x5).f2, wrap64 ((wrap64 ((wrap64 (x1 + 1)) + 1)) + 1), (rd_T37 y1132 x5).f4⟩ : S37) : List (S37))).bind fun y1133 => (laws_markLegS.l0 k (y1133.set (x5 : Int).toNat (⟨(rd_T37 y1133 x5).f0, (rd_T37 y1133 x5).f1, (rd_T37 y1133 x5).f2, (rd_T37 y1133 x5).f3, wrap64 ((wrap64 ((wrap64 ((wrap64 (x1 + 1)) + 1)) + 1)) + 1)⟩ : S37)) (wrap64 ((wrap64 ((wrap64 ((wrap64 ((wrap64 (x1 + 1)) + 1)) + 1)) + 1)) + 1)) (wrap64 (x5 + 1))))))) else (none)) else (some (x1, x0))
def laws_markLegS.f (k : Nat) (l0 : List (S37)) (a1 : Int) : Option (Int × (List (S37))) := laws_markLegS.l0 k l0 a1 0
set_option maxHeartbeats 8000000 in
set_option maxRecDepth 100000 in
theorem laws_markLegS.calls (k : Nat) (P0_ : Nat → Prop) (u9000_ : Value) (l0 : List (S37)) (a1 : Int) (r1 : Int) (r2 : List (S37)) (w0 w : World) (hB : Below w0.heap.size w0 w) (ho0 : Kd.R k37 37 w w0.heap.size P0_ u9000_ l0) (h : laws_markLegS.f k l0 a1 = some (r1, r2)) :
  Calls Try.prog 40 #[u9000_, .int .i64 a1] w fun e w' => e = .returned (.int .i64 r1) ∧ Kd.R k37 37 w' w0.heap.size (fun k_ => (P0_ k_ ∨ w.heap.size ≤ k_)) u9000_ r2 ∧ Below w0.heap.size w0 w' ∧ Kept w w' (fun k_ => P0_ k_) := by
 have HO0 := Aside0.mk (show Kd.R k37 37 w w0.heap.size (fun k_ => (P0_ k_ ∨ w.heap.size ≤ k_)) u9000_ l0 from Kd.R_mono ho0 (fun k_ hk => (.inl hk)))
 have HK := Aside0.mk (Kept.refl w (fun k_ => P0_ k_))
 have HW0 := Aside0.mk hB.size
 have HB := Aside0.mk hB
 clear hB
 have H : (laws_markLegS.l0 k l0 a1 0) = some (r1, r2) := h
 clear h
 have H' := Aside0.mk H
 clear H
 go_enter Try.func40, Try.ntmps40
 go_wp2
 go_loopg [1, 5] k (fun kq v1 v5 w' => ∃ (x0_1 : List (S37)) (x1_1 : Int) (x5_1 : Int), v1 = .int .i64 x1_1 ∧ v5 = .int .i64 x5_1 ∧ Aside0 (laws_markLegS.l0 kq x0_1 x1_1 x5_1 = some (r1, r2)) ∧ Aside0 (kq ≤ k) ∧ Aside0 (Kd.R k37 37 w' w0.heap.size (fun k_ => (P0_ k_ ∨ w.heap.size ≤ k_)) u9000_ x0_1) ∧ Aside0 (Kept w w' (fun k_ => P0_ k_)) ∧ Aside0 (Below w0.heap.size w0 w'))
 case atStart => exact ⟨(l0), (a1), (0), (by first | rfl | (simp; done) | (simp [*]; done)), (by first | rfl | (simp; done) | (simp [*]; done)), H', ⟨Nat.le_refl _⟩, ⟨kr_ HO0.out⟩, ⟨kt_ HK.out⟩, ⟨lb0_ HB.out⟩⟩
 case round =>
  clear H'
  try clear p2
  obtain ⟨x0_1, x1_1, x5_1, rfl, rfl, HA, HK1, HO_0, HK, HB⟩ := hrel
  cases gk with
  | zero => exact absurd HA.out (by simp [laws_markLegS.l0])
  | succ k1 =>
   have H := HA.out
   clear HA
   simp only [laws_markLegS.l0] at H
   by_cases c3 : x5_1 < (x0_1.length : Int)
   ·
    rw [if_pos c3] at H
    have c3b0 : decide (x5_1 < (x0_1.length : Int)) = true := decide_eq_true c3
    clear c3
    by_cases c4 : 0 ≤ x5_1
    ·
     rw [if_pos c4] at H
     have c4b0 : decide (0 ≤ x5_1) = true := decide_eq_true c4
     clear c4
     obtain ⟨y1130, hy1130⟩ : ∃ y_ : List (S37), y_ = (x0_1.set (x5_1 : Int).toNat (⟨x1_1, (rd_T37 x0_1 x5_1).f1, (rd_T37 x0_1 x5_1).f2, (rd_T37 x0_1 x5_1).f3, (rd_T37 x0_1 x5_1).f4⟩ : S37)) := ⟨_, rfl⟩
     replace H : ((some (y1130.set (x5_1 : Int).toNat (⟨(rd_T37 y1130 x5_1).f0, wrap64 (x1_1 + 1), (rd_T37 y1130 x5_1).f2, (rd_T37 y1130 x5_1).f3, (rd_T37 y1130 x5_1).f4⟩ : S37) : List (S37))).bind fun y1131 => ((some (y1131.set (x5_1 : Int).toNat (⟨(rd_T37 y1131 x5_1).f0, (rd_T37 y1131 x5_1).f1, wrap64 ((wrap64 (x1_1 + 1)) + 1), (rd_T37 y1131 x5_1).f3, (rd_T37 y1131 x5_1).f4⟩ : S37) : List (S37))).bind fun y1132 => ((some (y1132.set (x5_1 : Int).toNat (⟨(rd_T37 y1132 x5_1).f0, (rd_T37 y1132 x5_1).f1, (rd_T37 y1132 x5_1).f2, wrap64 ((wrap64 ((wrap64 (x1_1 + 1)) + 1)) + 1), (rd_T37 y1132 x5_1).f4⟩ : S37) : List (S37))).bind fun y1133 => (laws_markLegS.l0 k1 (y1133.set (x5_1 : Int).toNat (⟨(rd_T37 y1133 x5_1).f0, (rd_T37 y1133 x5_1).f1, (rd_T37 y1133 x5_1).f2, (rd_T37 y1133 x5_1).f3, wrap64 ((wrap64 ((wrap64 ((wrap64 (x1_1 + 1)) + 1)) + 1)) + 1)⟩ : S37)) (wrap64 ((wrap64 ((wrap64 ((wrap64 ((wrap64 (x1_1 + 1)) + 1)) + 1)) + 1)) + 1)) (wrap64 (x5_1 + 1)))))) = some (r1, r2) := by first | (rw [hy1130]; with_reducible exact H) | (have H2_ := (Option.bind_some _ _).symm.trans H; rw [hy1130]; with_reducible exact H2_) | (have H2_ := (Option.bind_some _ _).symm.trans H; with_reducible exact H2_) | with_reducible exact H | (rw [hy1130]; exact H) | exact H
     have Ny1130 := Aside0.mk hy1130
     clear hy1130
     obtain ⟨y1131, hy1131⟩ : ∃ y_ : List (S37), y_ = (y1130.set (x5_1 : Int).toNat (⟨(rd_T37 y1130 x5_1).f0, wrap64 (x1_1 + 1), (rd_T37 y1130 x5_1).f2, (rd_T37 y1130 x5_1).f3, (rd_T37 y1130 x5_1).f4⟩ : S37)) := ⟨_, rfl⟩
     replace H : ((some (y1131.set (x5_1 : Int).toNat (⟨(rd_T37 y1131 x5_1).f0, (rd_T37 y1131 x5_1).f1, wrap64 ((wrap64 (x1_1 + 1)) + 1), (rd_T37 y1131 x5_1).f3, (rd_T37 y1131 x5_1).f4⟩ : S37) : List (S37))).bind fun y1132 => ((some (y1132.set (x5_1 : Int).toNat (⟨(rd_T37 y1132 x5_1).f0, (rd_T37 y1132 x5_1).f1, (rd_T37 y1132 x5_1).f2, wrap64 ((wrap64 ((wrap64 (x1_1 + 1)) + 1)) + 1), (rd_T37 y1132 x5_1).f4⟩ : S37) : List (S37))).bind fun y1133 => (laws_markLegS.l0 k1 (y1133.set (x5_1 : Int).toNat (⟨(rd_T37 y1133 x5_1).f0, (rd_T37 y1133 x5_1).f1, (rd_T37 y1133 x5_1).f2, (rd_T37 y1133 x5_1).f3, wrap64 ((wrap64 ((wrap64 ((wrap64 (x1_1 + 1)) + 1)) + 1)) + 1)⟩ : S37)) (wrap64 ((wrap64 ((wrap64 ((wrap64 ((wrap64 (x1_1 + 1)) + 1)) + 1)) + 1)) + 1)) (wrap64 (x5_1 + 1))))) = some (r1, r2) := by first | (rw [hy1131]; with_reducible exact H) | (have H2_ := (Option.bind_some _ _).symm.trans H; rw [hy1131]; with_reducible exact H2_) | (have H2_ := (Option.bind_some _ _).symm.trans H; with_reducible exact H2_) | with_reducible exact H | (rw [hy1131]; exact H) | exact H
     have Ny1131 := Aside0.mk hy1131
     clear hy1131
     obtain ⟨y1132, hy1132⟩ : ∃ y_ : List (S37), y_ = (y1131.set (x5_1 : Int).toNat (⟨(rd_T37 y1131 x5_1).f0, (rd_T37 y1131 x5_1).f1, wrap64 ((wrap64 (x1_1 + 1)) + 1), (rd_T37 y1131 x5_1).f3, (rd_T37 y1131 x5_1).f4⟩ : S37)) := ⟨_, rfl⟩
     replace H : ((some (y1132.set (x5_1 : Int).toNat (⟨(rd_T37 y1132 x5_1).f0, (rd_T37 y1132 x5_1).f1, (rd_T37 y1132 x5_1).f2, wrap64 ((wrap64 ((wrap64 (x1_1 + 1)) + 1)) + 1), (rd_T37 y1132 x5_1).f4⟩ : S37) : List (S37))).bind fun y1133 => (laws_markLegS.l0 k1 (y1133.set (x5_1 : Int).toNat (⟨(rd_T37 y1133 x5_1).f0, (rd_T37 y1133 x5_1).f1, (rd_T37 y1133 x5_1).f2, (rd_T37 y1133 x5_1).f3, wrap64 ((wrap64 ((wrap64 ((wrap64 (x1_1 + 1)) + 1)) + 1)) + 1)⟩ : S37)) (wrap64 ((wrap64 ((wrap64 ((wrap64 ((wrap64 (x1_1 + 1)) + 1)) + 1)) + 1)) + 1)) (wrap64 (x5_1 + 1)))) = some (r1, r2) := by first | (rw [hy1132]; with_reducible exact H) | (have H2_ := (Option.bind_some _ _).symm.trans H; rw [hy1132]; with_reducible exact H2_) | (have H2_ := (Option.bind_some _ _).symm.trans H; with_reducible exact H2_) | with_reducible exact H | (rw [hy1132]; exact H) | exact H
     have Ny1132 := Aside0.mk hy1132
     clear hy1132
     obtain ⟨y1133, hy1133⟩ : ∃ y_ : List (S37), y_ = (y1132.set (x5_1 : Int).toNat (⟨(rd_T37 y1132 x5_1).f0, (rd_T37 y1132 x5_1).f1, (rd_T37 y1132 x5_1).f2, wrap64 ((wrap64 ((wrap64 (x1_1 + 1)) + 1)) + 1), (rd_T37 y1132 x5_1).f4⟩ : S37)) := ⟨_, rfl⟩
     replace H : (laws_markLegS.l0 k1 (y1133.set (x5_1 : Int).toNat (⟨(rd_T37 y1133 x5_1).f0, (rd_T37 y1133 x5_1).f1, (rd_T37 y1133 x5_1).f2, (rd_T37 y1133 x5_1).f3, wrap64 ((wrap64 ((wrap64 ((wrap64 (x1_1 + 1)) + 1)) + 1)) + 1)⟩ : S37)) (wrap64 ((wrap64 ((wrap64 ((wrap64 ((wrap64 (x1_1 + 1)) + 1)) + 1)) + 1)) + 1)) (wrap64 (x5_1 + 1))) = some (r1, r2) := by first | (rw [hy1133]; with_reducible exact H) | (have H2_ := (Option.bind_some _ _).symm.trans H; rw [hy1133]; with_reducible exact H2_) | (have H2_ := (Option.bind_some _ _).symm.trans H; with_reducible exact H2_) | with_reducible exact H | (rw [hy1133]; exact H) | exact H
     have Ny1133 := Aside0.mk hy1133
     clear hy1133
     obtain ⟨y1134, hy1134⟩ : ∃ y_ : List (S37), y_ = (y1133.set (x5_1 : Int).toNat (⟨(rd_T37 y1133 x5_1).f0, (rd_T37 y1133 x5_1).f1, (rd_T37 y1133 x5_1).f2, (rd_T37 y1133 x5_1).f3, wrap64 ((wrap64 ((wrap64 ((wrap64 (x1_1 + 1)) + 1)) + 1)) + 1)⟩ : S37)) := ⟨_, rfl⟩
     replace H : (laws_markLegS.l0 k1 y1134 (wrap64 ((wrap64 ((wrap64 ((wrap64 ((wrap64 (x1_1 + 1)) + 1)) + 1)) + 1)) + 1)) (wrap64 (x5_1 + 1))) = some (r1, r2) := by first | (rw [hy1134]; with_reducible exact H) | (have H2_ := (Option.bind_some _ _).symm.trans H; rw [hy1134]; with_reducible exact H2_) | (have H2_ := (Option.bind_some _ _).symm.trans H; with_reducible exact H2_) | with_reducible exact H | (rw [hy1134]; exact H) | exact H
     have Ny1134 := Aside0.mk hy1134
     clear hy1134
     have H' := Aside0.mk H
     clear H
     obtain ⟨Ao10, co10, eo10⟩ := Kd.R_slice HO_0.out
     subst eo10
     have p5 : 0 ≤ (x5_1 : Int) := dt_
     have q5 : (x5_1 : Int) < ((x0_1.length : Int) : Int) := dt_
     obtain ⟨go5, co5, eo5, gb5, gl5, cl5, HG5⟩ := Kd.R_form HO_0.out (by omega)
     (first | cases eo5 | (injection eo5 with ea_ en_ ec_; (first | subst ea_ | (injection ea_ with ea_; subst ea_)); subst ec_; clear en_))
     have GB5 := Aside0.mk gb5
     have GG5 := Aside0.mk HG5
     clear gb5 gl5 HG5
     have HMgo5 := Aside0.mk (show (P0_ go5 ∨ w.heap.size ≤ go5) from (HO_0.out.1 _ rfl))
     obtain ⟨ce5, hcl5, hM5, hcc5, hfr5⟩ := Kd.R_elem HO_0.out z37 (x5_1 : Int) p5 q5
     obtain rfl := k37_openM hM5
     have hx5_0 : wr.cell? ⟨go5, (x5_1 : Int).toNat * 5, none⟩ = some (.int .i64 ((rd_T37 x0_1 x5_1).f0)) := hcc5 0 _ rfl
     have hx5_1 : wr.cell? ⟨go5, (x5_1 : Int).toNat * 5 + 1, none⟩ = some (.int .i64 ((rd_T37 x0_1 x5_1).f1)) := hcc5 1 _ rfl
     have hx5_2 : wr.cell? ⟨go5, (x5_1 : Int).toNat * 5 + 2, none⟩ = some (.int .i64 ((rd_T37 x0_1 x5_1).f2)) := hcc5 2 _ rfl
     have hx5_3 : wr.cell? ⟨go5, (x5_1 : Int).toNat * 5 + 3, none⟩ = some (.int .i64 ((rd_T37 x0_1 x5_1).f3)) := hcc5 3 _ rfl
     have hx5_4 : wr.cell? ⟨go5, (x5_1 : Int).toNat * 5 + 4, none⟩ = some (.int .i64 ((rd_T37 x0_1 x5_1).f4)) := hcc5 4 _ rfl
     have hf5_0 : wr.frozen? ⟨go5, (x5_1 : Int).toNat * 5, none⟩ = false := hfr5 0
     have hf5_1 : wr.frozen? ⟨go5, (x5_1 : Int).toNat * 5 + 1, none⟩ = false := hfr5 1
     have hf5_2 : wr.frozen? ⟨go5, (x5_1 : Int).toNat * 5 + 2, none⟩ = false := hfr5 2
     have hf5_3 : wr.frozen? ⟨go5, (x5_1 : Int).toNat * 5 + 3, none⟩ = false := hfr5 3
     have hf5_4 : wr.frozen? ⟨go5, (x5_1 : Int).toNat * 5 + 4, none⟩ = false := hfr5 4
     clear hcl5 hcc5 hfr5 hM5
     replace p5 := eq_true p5
     replace q5 := eq_true q5
     have HX11 := Aside0.mk (show Kd.R k37 37 wr w0.heap.size (fun k_ => (P0_ k_ ∨ w.heap.size ≤ k_)) (.slice (some ⟨go5, 0, none⟩) x0_1.length co10) x0_1 from (kr_ HO_0.out))
     obtain ⟨ce11, hcl11, hM11, hcc11, hfr11⟩ := Kd.R_elem HX11.out z37 (x5_1 : Int) (dt_) (by have h_ : (x5_1 : Int) < ((x0_1.length : Int) : Int) := dt_; first | exact h_ | (have e_ := (Kd.R_reads' HO_0.out).1; omega) | simpa using h_)
     obtain rfl := k37_openM hM11
     have HP11 := Kd.R_seg HX11.out (x5_1 : Int) (dt_) (by have h_ : (x5_1 : Int) < ((x0_1.length : Int) : Int) := dt_; first | exact h_ | (have e_ := (Kd.R_reads' HO_0.out).1; omega) | simpa using h_) (seg := [.int .i64 x1_1]) (j := 0) hcl11 hcc11 (show 1 ≤ 5 from by decide) (x' := (⟨x1_1, (rd_T37 x0_1 x5_1).f1, (rd_T37 x0_1 x5_1).f2, (rd_T37 x0_1 x5_1).f3, (rd_T37 x0_1 x5_1).f4⟩ : S37)) (k37_mkM _ _ _ (⟨x1_1, (rd_T37 x0_1 x5_1).f1, (rd_T37 x0_1 x5_1).f2, (rd_T37 x0_1 x5_1).f3, (rd_T37 x0_1 x5_1).f4⟩ : S37) ) (fun _ hk => hk)
     have hx11_0 := hcc11 0 _ rfl
     (try simp only [show (k37).sz = 5 from rfl, Nat.mul_one, Nat.add_zero] at hx11_0)
     have hf11_0 := hfr11 0
     (try simp only [show (k37).sz = 5 from rfl, Nat.mul_one, Nat.add_zero] at hf11_0)
     clear hcl11 hcc11 hfr11 hM11
     go_wp2_with (first | ((with_reducible refine gate_store (t := 3) (p := 16) rfl ?_); refine store_event (t := 3) (p := 16) (v := ?vo_w12) (w1 := (wr.setCell ⟨go5, (x5_1 : Int).toNat * 5, none⟩ (.int .i64 x1_1))) ?hg ?ho ?hn ?hr ?_; (case ho => rfl); (case hg => rfl); (case hn => rfl); (case hr => first | (go_simp; done) | (go_simp; rfl)); intro w12 hw; have hg : wr.grownBy w12 (some go5) := (by rw [hw]; exact HP11.2); have hp_ : Kd.R k37 37 w12 w0.heap.size (fun k_ => (P0_ k_ ∨ w.heap.size ≤ k_)) (.slice (some ⟨go5, 0, none⟩) x0_1.length co10) y1130 := (by rw [hw, Ny1130.out]; exact HP11.1); clear HP11; replace HB := Aside0.mk ((by rw [hw]; exact below_set (HB.out) GB5.out : Below w0.heap.size w0 w12)); replace HK := Aside0.mk (Kept.of_grown (S := (fun k_ => P0_ k_)) hg (kt_ HK.out) (fun k_ e_ => (HO_0.out.1 k_ e_))); replace HO_0 := Aside0.mk (hp_); clear hg hw hp_; have p6 : 0 ≤ (x5_1 : Int) := dt_; have q6 : (x5_1 : Int) < ((x0_1.length : Int) : Int) := dt_; obtain ⟨ce6, hcl6, hM6, hcc6, hfr6⟩ := Kd.R_elem HO_0.out z37 (x5_1 : Int) p6 q6; obtain rfl := k37_openM hM6; have hx6_0 : w12.cell? ⟨go5, (x5_1 : Int).toNat * 5, none⟩ = some (.int .i64 ((rd_T37 y1130 x5_1).f0)) := hcc6 0 _ rfl; have hx6_1 : w12.cell? ⟨go5, (x5_1 : Int).toNat * 5 + 1, none⟩ = some (.int .i64 ((rd_T37 y1130 x5_1).f1)) := hcc6 1 _ rfl; have hx6_2 : w12.cell? ⟨go5, (x5_1 : Int).toNat * 5 + 2, none⟩ = some (.int .i64 ((rd_T37 y1130 x5_1).f2)) := hcc6 2 _ rfl; have hx6_3 : w12.cell? ⟨go5, (x5_1 : Int).toNat * 5 + 3, none⟩ = some (.int .i64 ((rd_T37 y1130 x5_1).f3)) := hcc6 3 _ rfl; have hx6_4 : w12.cell? ⟨go5, (x5_1 : Int).toNat * 5 + 4, none⟩ = some (.int .i64 ((rd_T37 y1130 x5_1).f4)) := hcc6 4 _ rfl; have hf6_0 : w12.frozen? ⟨go5, (x5_1 : Int).toNat * 5, none⟩ = false := hfr6 0; have hf6_1 : w12.frozen? ⟨go5, (x5_1 : Int).toNat * 5 + 1, none⟩ = false := hfr6 1; have hf6_2 : w12.frozen? ⟨go5, (x5_1 : Int).toNat * 5 + 2, none⟩ = false := hfr6 2; have hf6_3 : w12.frozen? ⟨go5, (x5_1 : Int).toNat * 5 + 3, none⟩ = false := hfr6 3; have hf6_4 : w12.frozen? ⟨go5, (x5_1 : Int).toNat * 5 + 4, none⟩ = false := hfr6 4; clear hcl6 hcc6 hfr6 hM6; replace p6 := eq_true p6; replace q6 := eq_true q6; have HX13 := Aside0.mk (show Kd.R k37 37 w12 w0.heap.size (fun k_ => (P0_ k_ ∨ w.heap.size ≤ k_)) (.slice (some ⟨go5, 0, none⟩) x0_1.length co10) y1130 from (kr_ HO_0.out)); obtain ⟨ce13, hcl13, hM13, hcc13, hfr13⟩ := Kd.R_elem HX13.out z37 (x5_1 : Int) (dt_) (by have h_ : (x5_1 : Int) < ((x0_1.length : Int) : Int) := dt_; first | exact h_ | (have e_ := (Kd.R_reads' HO_0.out).1; omega) | simpa using h_); obtain rfl := k37_openM hM13; have HP13 := Kd.R_seg HX13.out (x5_1 : Int) (dt_) (by have h_ : (x5_1 : Int) < ((x0_1.length : Int) : Int) := dt_; first | exact h_ | (have e_ := (Kd.R_reads' HO_0.out).1; omega) | simpa using h_) (seg := [.int .i64 (wrap64 (x1_1 + 1))]) (j := 1) hcl13 hcc13 (show 2 ≤ 5 from by decide) (x' := (⟨(rd_T37 y1130 x5_1).f0, wrap64 (x1_1 + 1), (rd_T37 y1130 x5_1).f2, (rd_T37 y1130 x5_1).f3, (rd_T37 y1130 x5_1).f4⟩ : S37)) (k37_mkM _ _ _ (⟨(rd_T37 y1130 x5_1).f0, wrap64 (x1_1 + 1), (rd_T37 y1130 x5_1).f2, (rd_T37 y1130 x5_1).f3, (rd_T37 y1130 x5_1).f4⟩ : S37) ) (fun _ hk => hk); have hx13_1 := hcc13 1 _ rfl; (try simp only [show (k37).sz = 5 from rfl, Nat.mul_one, Nat.add_zero] at hx13_1); have hf13_1 := hfr13 1; (try simp only [show (k37).sz = 5 from rfl, Nat.mul_one, Nat.add_zero] at hf13_1); clear hcl13 hcc13 hfr13 hM13) | ((with_reducible refine gate_store (t := 3) (p := 23) rfl ?_); refine store_event (t := 3) (p := 23) (v := ?vo_w14) (w1 := (w12.setCell ⟨go5, (x5_1 : Int).toNat * 5 + 1, none⟩ (.int .i64 (wrap64 (x1_1 + 1))))) ?hg ?ho ?hn ?hr ?_; (case ho => rfl); (case hg => rfl); (case hn => rfl); (case hr => first | (go_simp; done) | (go_simp; rfl)); intro w14 hw; have hg : w12.grownBy w14 (some go5) := (by rw [hw]; exact HP13.2); have hp_ : Kd.R k37 37 w14 w0.heap.size (fun k_ => (P0_ k_ ∨ w.heap.size ≤ k_)) (.slice (some ⟨go5, 0, none⟩) x0_1.length co10) y1131 := (by rw [hw, Ny1131.out]; exact HP13.1); clear HP13; replace HB := Aside0.mk ((by rw [hw]; exact below_set (HB.out) GB5.out : Below w0.heap.size w0 w14)); replace HK := Aside0.mk (Kept.of_grown (S := (fun k_ => P0_ k_)) hg (kt_ HK.out) (fun k_ e_ => (HO_0.out.1 k_ e_))); replace HO_0 := Aside0.mk (hp_); clear hg hw hp_; have p7 : 0 ≤ (x5_1 : Int) := dt_; have q7 : (x5_1 : Int) < ((x0_1.length : Int) : Int) := dt_; obtain ⟨ce7, hcl7, hM7, hcc7, hfr7⟩ := Kd.R_elem HO_0.out z37 (x5_1 : Int) p7 q7; obtain rfl := k37_openM hM7; have hx7_0 : w14.cell? ⟨go5, (x5_1 : Int).toNat * 5, none⟩ = some (.int .i64 ((rd_T37 y1131 x5_1).f0)) := hcc7 0 _ rfl; have hx7_1 : w14.cell? ⟨go5, (x5_1 : Int).toNat * 5 + 1, none⟩ = some (.int .i64 ((rd_T37 y1131 x5_1).f1)) := hcc7 1 _ rfl; have hx7_2 : w14.cell? ⟨go5, (x5_1 : Int).toNat * 5 + 2, none⟩ = some (.int .i64 ((rd_T37 y1131 x5_1).f2)) := hcc7 2 _ rfl; have hx7_3 : w14.cell? ⟨go5, (x5_1 : Int).toNat * 5 + 3, none⟩ = some (.int .i64 ((rd_T37 y1131 x5_1).f3)) := hcc7 3 _ rfl; have hx7_4 : w14.cell? ⟨go5, (x5_1 : Int).toNat * 5 + 4, none⟩ = some (.int .i64 ((rd_T37 y1131 x5_1).f4)) := hcc7 4 _ rfl; have hf7_0 : w14.frozen? ⟨go5, (x5_1 : Int).toNat * 5, none⟩ = false := hfr7 0; have hf7_1 : w14.frozen? ⟨go5, (x5_1 : Int).toNat * 5 + 1, none⟩ = false := hfr7 1; have hf7_2 : w14.frozen? ⟨go5, (x5_1 : Int).toNat * 5 + 2, none⟩ = false := hfr7 2; have hf7_3 : w14.frozen? ⟨go5, (x5_1 : Int).toNat * 5 + 3, none⟩ = false := hfr7 3; have hf7_4 : w14.frozen? ⟨go5, (x5_1 : Int).toNat * 5 + 4, none⟩ = false := hfr7 4; clear hcl7 hcc7 hfr7 hM7; replace p7 := eq_true p7; replace q7 := eq_true q7; have HX15 := Aside0.mk (show Kd.R k37 37 w14 w0.heap.size (fun k_ => (P0_ k_ ∨ w.heap.size ≤ k_)) (.slice (some ⟨go5, 0, none⟩) x0_1.length co10) y1131 from (kr_ HO_0.out)); obtain ⟨ce15, hcl15, hM15, hcc15, hfr15⟩ := Kd.R_elem HX15.out z37 (x5_1 : Int) (dt_) (by have h_ : (x5_1 : Int) < ((x0_1.length : Int) : Int) := dt_; first | exact h_ | (have e_ := (Kd.R_reads' HO_0.out).1; omega) | simpa using h_); obtain rfl := k37_openM hM15; have HP15 := Kd.R_seg HX15.out (x5_1 : Int) (dt_) (by have h_ : (x5_1 : Int) < ((x0_1.length : Int) : Int) := dt_; first | exact h_ | (have e_ := (Kd.R_reads' HO_0.out).1; omega) | simpa using h_) (seg := [.int .i64 (wrap64 ((wrap64 (x1_1 + 1)) + 1))]) (j := 2) hcl15 hcc15 (show 3 ≤ 5 from by decide) (x' := (⟨(rd_T37 y1131 x5_1).f0, (rd_T37 y1131 x5_1).f1, wrap64 ((wrap64 (x1_1 + 1)) + 1), (rd_T37 y1131 x5_1).f3, (rd_T37 y1131 x5_1).f4⟩ : S37)) (k37_mkM _ _ _ (⟨(rd_T37 y1131 x5_1).f0, (rd_T37 y1131 x5_1).f1, wrap64 ((wrap64 (x1_1 + 1)) + 1), (rd_T37 y1131 x5_1).f3, (rd_T37 y1131 x5_1).f4⟩ : S37) ) (fun _ hk => hk); have hx15_2 := hcc15 2 _ rfl; (try simp only [show (k37).sz = 5 from rfl, Nat.mul_one, Nat.add_zero] at hx15_2); have hf15_2 := hfr15 2; (try simp only [show (k37).sz = 5 from rfl, Nat.mul_one, Nat.add_zero] at hf15_2); clear hcl15 hcc15 hfr15 hM15) | ((with_reducible refine gate_store (t := 3) (p := 30) rfl ?_); refine store_event (t := 3) (p := 30) (v := ?vo_w16) (w1 := (w14.setCell ⟨go5, (x5_1 : Int).toNat * 5 + 2, none⟩ (.int .i64 (wrap64 ((wrap64 (x1_1 + 1)) + 1))))) ?hg ?ho ?hn ?hr ?_; (case ho => rfl); (case hg => rfl); (case hn => rfl); (case hr => first | (go_simp; done) | (go_simp; rfl)); intro w16 hw; have hg : w14.grownBy w16 (some go5) := (by rw [hw]; exact HP15.2); have hp_ : Kd.R k37 37 w16 w0.heap.size (fun k_ => (P0_ k_ ∨ w.heap.size ≤ k_)) (.slice (some ⟨go5, 0, none⟩) x0_1.length co10) y1132 := (by rw [hw, Ny1132.out]; exact HP15.1); clear HP15; replace HB := Aside0.mk ((by rw [hw]; exact below_set (HB.out) GB5.out : Below w0.heap.size w0 w16)); replace HK := Aside0.mk (Kept.of_grown (S := (fun k_ => P0_ k_)) hg (kt_ HK.out) (fun k_ e_ => (HO_0.out.1 k_ e_))); replace HO_0 := Aside0.mk (hp_); clear hg hw hp_; have p8 : 0 ≤ (x5_1 : Int) := dt_; have q8 : (x5_1 : Int) < ((x0_1.length : Int) : Int) := dt_; obtain ⟨ce8, hcl8, hM8, hcc8, hfr8⟩ := Kd.R_elem HO_0.out z37 (x5_1 : Int) p8 q8; obtain rfl := k37_openM hM8; have hx8_0 : w16.cell? ⟨go5, (x5_1 : Int).toNat * 5, none⟩ = some (.int .i64 ((rd_T37 y1132 x5_1).f0)) := hcc8 0 _ rfl; have hx8_1 : w16.cell? ⟨go5, (x5_1 : Int).toNat * 5 + 1, none⟩ = some (.int .i64 ((rd_T37 y1132 x5_1).f1)) := hcc8 1 _ rfl; have hx8_2 : w16.cell? ⟨go5, (x5_1 : Int).toNat * 5 + 2, none⟩ = some (.int .i64 ((rd_T37 y1132 x5_1).f2)) := hcc8 2 _ rfl; have hx8_3 : w16.cell? ⟨go5, (x5_1 : Int).toNat * 5 + 3, none⟩ = some (.int .i64 ((rd_T37 y1132 x5_1).f3)) := hcc8 3 _ rfl; have hx8_4 : w16.cell? ⟨go5, (x5_1 : Int).toNat * 5 + 4, none⟩ = some (.int .i64 ((rd_T37 y1132 x5_1).f4)) := hcc8 4 _ rfl; have hf8_0 : w16.frozen? ⟨go5, (x5_1 : Int).toNat * 5, none⟩ = false := hfr8 0; have hf8_1 : w16.frozen? ⟨go5, (x5_1 : Int).toNat * 5 + 1, none⟩ = false := hfr8 1; have hf8_2 : w16.frozen? ⟨go5, (x5_1 : Int).toNat * 5 + 2, none⟩ = false := hfr8 2; have hf8_3 : w16.frozen? ⟨go5, (x5_1 : Int).toNat * 5 + 3, none⟩ = false := hfr8 3; have hf8_4 : w16.frozen? ⟨go5, (x5_1 : Int).toNat * 5 + 4, none⟩ = false := hfr8 4; clear hcl8 hcc8 hfr8 hM8; replace p8 := eq_true p8; replace q8 := eq_true q8; have HX17 := Aside0.mk (show Kd.R k37 37 w16 w0.heap.size (fun k_ => (P0_ k_ ∨ w.heap.size ≤ k_)) (.slice (some ⟨go5, 0, none⟩) x0_1.length co10) y1132 from (kr_ HO_0.out)); obtain ⟨ce17, hcl17, hM17, hcc17, hfr17⟩ := Kd.R_elem HX17.out z37 (x5_1 : Int) (dt_) (by have h_ : (x5_1 : Int) < ((x0_1.length : Int) : Int) := dt_; first | exact h_ | (have e_ := (Kd.R_reads' HO_0.out).1; omega) | simpa using h_); obtain rfl := k37_openM hM17; have HP17 := Kd.R_seg HX17.out (x5_1 : Int) (dt_) (by have h_ : (x5_1 : Int) < ((x0_1.length : Int) : Int) := dt_; first | exact h_ | (have e_ := (Kd.R_reads' HO_0.out).1; omega) | simpa using h_) (seg := [.int .i64 (wrap64 ((wrap64 ((wrap64 (x1_1 + 1)) + 1)) + 1))]) (j := 3) hcl17 hcc17 (show 4 ≤ 5 from by decide) (x' := (⟨(rd_T37 y1132 x5_1).f0, (rd_T37 y1132 x5_1).f1, (rd_T37 y1132 x5_1).f2, wrap64 ((wrap64 ((wrap64 (x1_1 + 1)) + 1)) + 1), (rd_T37 y1132 x5_1).f4⟩ : S37)) (k37_mkM _ _ _ (⟨(rd_T37 y1132 x5_1).f0, (rd_T37 y1132 x5_1).f1, (rd_T37 y1132 x5_1).f2, wrap64 ((wrap64 ((wrap64 (x1_1 + 1)) + 1)) + 1), (rd_T37 y1132 x5_1).f4⟩ : S37) ) (fun _ hk => hk); have hx17_3 := hcc17 3 _ rfl; (try simp only [show (k37).sz = 5 from rfl, Nat.mul_one, Nat.add_zero] at hx17_3); have hf17_3 := hfr17 3; (try simp only [show (k37).sz = 5 from rfl, Nat.mul_one, Nat.add_zero] at hf17_3); clear hcl17 hcc17 hfr17 hM17) | ((with_reducible refine gate_store (t := 3) (p := 37) rfl ?_); refine store_event (t := 3) (p := 37) (v := ?vo_w18) (w1 := (w16.setCell ⟨go5, (x5_1 : Int).toNat * 5 + 3, none⟩ (.int .i64 (wrap64 ((wrap64 ((wrap64 (x1_1 + 1)) + 1)) + 1))))) ?hg ?ho ?hn ?hr ?_; (case ho => rfl); (case hg => rfl); (case hn => rfl); (case hr => first | (go_simp; done) | (go_simp; rfl)); intro w18 hw; have hg : w16.grownBy w18 (some go5) := (by rw [hw]; exact HP17.2); have hp_ : Kd.R k37 37 w18 w0.heap.size (fun k_ => (P0_ k_ ∨ w.heap.size ≤ k_)) (.slice (some ⟨go5, 0, none⟩) x0_1.length co10) y1133 := (by rw [hw, Ny1133.out]; exact HP17.1); clear HP17; replace HB := Aside0.mk ((by rw [hw]; exact below_set (HB.out) GB5.out : Below w0.heap.size w0 w18)); replace HK := Aside0.mk (Kept.of_grown (S := (fun k_ => P0_ k_)) hg (kt_ HK.out) (fun k_ e_ => (HO_0.out.1 k_ e_))); replace HO_0 := Aside0.mk (hp_); clear hg hw hp_; have p9 : 0 ≤ (x5_1 : Int) := dt_; have q9 : (x5_1 : Int) < ((x0_1.length : Int) : Int) := dt_; obtain ⟨ce9, hcl9, hM9, hcc9, hfr9⟩ := Kd.R_elem HO_0.out z37 (x5_1 : Int) p9 q9; obtain rfl := k37_openM hM9; have hx9_0 : w18.cell? ⟨go5, (x5_1 : Int).toNat * 5, none⟩ = some (.int .i64 ((rd_T37 y1133 x5_1).f0)) := hcc9 0 _ rfl; have hx9_1 : w18.cell? ⟨go5, (x5_1 : Int).toNat * 5 + 1, none⟩ = some (.int .i64 ((rd_T37 y1133 x5_1).f1)) := hcc9 1 _ rfl; have hx9_2 : w18.cell? ⟨go5, (x5_1 : Int).toNat * 5 + 2, none⟩ = some (.int .i64 ((rd_T37 y1133 x5_1).f2)) := hcc9 2 _ rfl; have hx9_3 : w18.cell? ⟨go5, (x5_1 : Int).toNat * 5 + 3, none⟩ = some (.int .i64 ((rd_T37 y1133 x5_1).f3)) := hcc9 3 _ rfl; have hx9_4 : w18.cell? ⟨go5, (x5_1 : Int).toNat * 5 + 4, none⟩ = some (.int .i64 ((rd_T37 y1133 x5_1).f4)) := hcc9 4 _ rfl; have hf9_0 : w18.frozen? ⟨go5, (x5_1 : Int).toNat * 5, none⟩ = false := hfr9 0; have hf9_1 : w18.frozen? ⟨go5, (x5_1 : Int).toNat * 5 + 1, none⟩ = false := hfr9 1; have hf9_2 : w18.frozen? ⟨go5, (x5_1 : Int).toNat * 5 + 2, none⟩ = false := hfr9 2; have hf9_3 : w18.frozen? ⟨go5, (x5_1 : Int).toNat * 5 + 3, none⟩ = false := hfr9 3; have hf9_4 : w18.frozen? ⟨go5, (x5_1 : Int).toNat * 5 + 4, none⟩ = false := hfr9 4; clear hcl9 hcc9 hfr9 hM9; replace p9 := eq_true p9; replace q9 := eq_true q9; have HX19 := Aside0.mk (show Kd.R k37 37 w18 w0.heap.size (fun k_ => (P0_ k_ ∨ w.heap.size ≤ k_)) (.slice (some ⟨go5, 0, none⟩) x0_1.length co10) y1133 from (kr_ HO_0.out)); obtain ⟨ce19, hcl19, hM19, hcc19, hfr19⟩ := Kd.R_elem HX19.out z37 (x5_1 : Int) (dt_) (by have h_ : (x5_1 : Int) < ((x0_1.length : Int) : Int) := dt_; first | exact h_ | (have e_ := (Kd.R_reads' HO_0.out).1; omega) | simpa using h_); obtain rfl := k37_openM hM19; have HP19 := Kd.R_seg HX19.out (x5_1 : Int) (dt_) (by have h_ : (x5_1 : Int) < ((x0_1.length : Int) : Int) := dt_; first | exact h_ | (have e_ := (Kd.R_reads' HO_0.out).1; omega) | simpa using h_) (seg := [.int .i64 (wrap64 ((wrap64 ((wrap64 ((wrap64 (x1_1 + 1)) + 1)) + 1)) + 1))]) (j := 4) hcl19 hcc19 (show 5 ≤ 5 from by decide) (x' := (⟨(rd_T37 y1133 x5_1).f0, (rd_T37 y1133 x5_1).f1, (rd_T37 y1133 x5_1).f2, (rd_T37 y1133 x5_1).f3, wrap64 ((wrap64 ((wrap64 ((wrap64 (x1_1 + 1)) + 1)) + 1)) + 1)⟩ : S37)) (k37_mkM _ _ _ (⟨(rd_T37 y1133 x5_1).f0, (rd_T37 y1133 x5_1).f1, (rd_T37 y1133 x5_1).f2, (rd_T37 y1133 x5_1).f3, wrap64 ((wrap64 ((wrap64 ((wrap64 (x1_1 + 1)) + 1)) + 1)) + 1)⟩ : S37) ) (fun _ hk => hk); have hx19_4 := hcc19 4 _ rfl; (try simp only [show (k37).sz = 5 from rfl, Nat.mul_one, Nat.add_zero] at hx19_4); have hf19_4 := hfr19 4; (try simp only [show (k37).sz = 5 from rfl, Nat.mul_one, Nat.add_zero] at hf19_4); clear hcl19 hcc19 hfr19 hM19) | ((with_reducible refine gate_store (t := 3) (p := 44) rfl ?_); refine store_event (t := 3) (p := 44) (v := ?vo_w20) (w1 := (w18.setCell ⟨go5, (x5_1 : Int).toNat * 5 + 4, none⟩ (.int .i64 (wrap64 ((wrap64 ((wrap64 ((wrap64 (x1_1 + 1)) + 1)) + 1)) + 1))))) ?hg ?ho ?hn ?hr ?_; (case ho => rfl); (case hg => rfl); (case hn => rfl); (case hr => first | (go_simp; done) | (go_simp; rfl)); intro w20 hw; have hg : w18.grownBy w20 (some go5) := (by rw [hw]; exact HP19.2); have hp_ : Kd.R k37 37 w20 w0.heap.size (fun k_ => (P0_ k_ ∨ w.heap.size ≤ k_)) (.slice (some ⟨go5, 0, none⟩) x0_1.length co10) y1134 := (by rw [hw, Ny1134.out]; exact HP19.1); clear HP19; replace HB := Aside0.mk ((by rw [hw]; exact below_set (HB.out) GB5.out : Below w0.heap.size w0 w20)); replace HK := Aside0.mk (Kept.of_grown (S := (fun k_ => P0_ k_)) hg (kt_ HK.out) (fun k_ e_ => (HO_0.out.1 k_ e_))); replace HO_0 := Aside0.mk (hp_); clear hg hw hp_))
     go_roundg k1
     case measure => have := HK1.out; omega
     case rel => exact ⟨(y1134), (wrap64 ((wrap64 ((wrap64 ((wrap64 ((wrap64 (x1_1 + 1)) + 1)) + 1)) + 1)) + 1)), (wrap64 (x5_1 + 1)), (by first | rfl | (simp; done) | (simp [*]; done)), (by first | rfl | (simp; done) | (simp [*]; done)), H', ⟨by have := HK1.out; omega⟩, ⟨by (with_reducible repeat (first | apply Kd.R_alloc | apply Kd.R_drewN | apply Kd.R_drew)); first | exact HO_0.out | (rw [Ny1134.out]; exact (Kd.R_putg (Kd.R_drewN HO_0.out _) _ _).1) | (rw [Ny1134.out]; exact (Kd.R_putg HO_0.out _ _).1)⟩, ⟨kt_ HK.out⟩, ⟨by repeat (first | (with_reducible first | exact HB.out | apply below_alloc | apply pw_below_drewN | apply below_drew1) | exact HB.out | (first | exact below_set (pw_below_drewN HB.out _) GB5.out | exact below_set HB.out GB5.out))⟩⟩
    ·
     rw [if_neg c4] at H
     exact absurd H (by simp)
   ·
    rw [if_neg c3] at H
    have c3b0 : decide (x5_1 < (x0_1.length : Int)) = false := decide_eq_false c3
    clear c3
    simp only [Option.some.injEq, Prod.mk.injEq] at H
    obtain ⟨rfl, rfl⟩ := H
    obtain ⟨Ao21, co21, eo21⟩ := Kd.R_slice HO_0.out
    subst eo21
    go_wp2
    go_ret
    exact ⟨rr_, kr_ HO_0.out, lb0_ HB.out, kt_ HK.out⟩
def laws_markBoolS.l0 : Nat → List Bool → Int → Int → Option (Int × List Bool)
 | 0, _, _, _ => none
 | k + 1, x0, x1, x5 => if x5 < (x0.length : Int) then (if 0 ≤ x5 then (laws_markBoolS.l0 k (x0.set (x5 : Int).toNat ((Int.tmod x1 3) == 0)) (wrap64 (x1 + 1)) (wrap64 (x5 + 1))) else (none)) else (some (x1, x0))
def laws_markBoolS.f (k : Nat) (l0 : List Bool) (a1 : Int) : Option (Int × List Bool) := laws_markBoolS.l0 k l0 a1 0
set_option maxHeartbeats 8000000 in
set_option maxRecDepth 100000 in
theorem laws_markBoolS.calls (k : Nat) (P0_ : Nat → Prop) (u9000_ : Value) (l0 : List Bool) (a1 : Int) (r1 : Int) (r2 : List Bool) (w0 w : World) (hB : Below w0.heap.size w0 w) (ho0 : Kd.R Kd.bool 4 w w0.heap.size P0_ u9000_ l0) (h : laws_markBoolS.f k l0 a1 = some (r1, r2)) :
  Calls Try.prog 91 #[u9000_, .int .i64 a1] w fun e w' => e = .returned (.int .i64 r1) ∧ Kd.R Kd.bool 4 w' w0.heap.size (fun k_ => (P0_ k_ ∨ w.heap.size ≤ k_)) u9000_ r2 ∧ Below w0.heap.size w0 w' ∧ Kept w w' (fun k_ => P0_ k_) := by
 have HO0 := Aside0.mk (show Kd.R Kd.bool 4 w w0.heap.size (fun k_ => (P0_ k_ ∨ w.heap.size ≤ k_)) u9000_ l0 from Kd.R_mono ho0 (fun k_ hk => (.inl hk)))
 have HK := Aside0.mk (Kept.refl w (fun k_ => P0_ k_))
 have HW0 := Aside0.mk hB.size
 have HB := Aside0.mk hB
 clear hB
 have H : (laws_markBoolS.l0 k l0 a1 0) = some (r1, r2) := h
 clear h
 have H' := Aside0.mk H
 clear H
 go_enter Try.func91, Try.ntmps91
 go_wp2
 go_loopg [1, 5] k (fun kq v1 v5 w' => ∃ (x0_1 : List Bool) (x1_1 : Int) (x5_1 : Int), v1 = .int .i64 x1_1 ∧ v5 = .int .i64 x5_1 ∧ Aside0 (laws_markBoolS.l0 kq x0_1 x1_1 x5_1 = some (r1, r2)) ∧ Aside0 (kq ≤ k) ∧ Aside0 (Kd.R Kd.bool 4 w' w0.heap.size (fun k_ => (P0_ k_ ∨ w.heap.size ≤ k_)) u9000_ x0_1) ∧ Aside0 (Kept w w' (fun k_ => P0_ k_)) ∧ Aside0 (Below w0.heap.size w0 w'))
 case atStart => exact ⟨(l0), (a1), (0), (by first | rfl | (simp; done) | (simp [*]; done)), (by first | rfl | (simp; done) | (simp [*]; done)), H', ⟨Nat.le_refl _⟩, ⟨kr_ HO0.out⟩, ⟨kt_ HK.out⟩, ⟨lb0_ HB.out⟩⟩
 case round =>
  clear H'
  try clear p2
  obtain ⟨x0_1, x1_1, x5_1, rfl, rfl, HA, HK1, HO_0, HK, HB⟩ := hrel
  cases gk with
  | zero => exact absurd HA.out (by simp [laws_markBoolS.l0])
  | succ k1 =>
   have H := HA.out
   clear HA
   simp only [laws_markBoolS.l0] at H
   by_cases c3 : x5_1 < (x0_1.length : Int)
   ·
    rw [if_pos c3] at H
    have c3b0 : decide (x5_1 < (x0_1.length : Int)) = true := decide_eq_true c3
    clear c3
    by_cases c4 : 0 ≤ x5_1
    ·
     rw [if_pos c4] at H
     have c4b0 : decide (0 ≤ x5_1) = true := decide_eq_true c4
     clear c4
     obtain ⟨y1135, hy1135⟩ : ∃ y_ : List Bool, y_ = (x0_1.set (x5_1 : Int).toNat ((Int.tmod x1_1 3) == 0)) := ⟨_, rfl⟩
     replace H : (laws_markBoolS.l0 k1 y1135 (wrap64 (x1_1 + 1)) (wrap64 (x5_1 + 1))) = some (r1, r2) := by first | (rw [hy1135]; with_reducible exact H) | (have H2_ := (Option.bind_some _ _).symm.trans H; rw [hy1135]; with_reducible exact H2_) | (have H2_ := (Option.bind_some _ _).symm.trans H; with_reducible exact H2_) | with_reducible exact H | (rw [hy1135]; exact H) | exact H
     have Ny1135 := Aside0.mk hy1135
     clear hy1135
     have H' := Aside0.mk H
     clear H
     obtain ⟨Ao6, co6, eo6⟩ := Kd.R_slice HO_0.out
     subst eo6
     have p5 : 0 ≤ (x5_1 : Int) := dt_
     have q5 : (x5_1 : Int) < ((x0_1.length : Int) : Int) := dt_
     obtain ⟨go5, co5, eo5, gb5, gl5, cl5, HG5⟩ := Kd.R_form HO_0.out (by omega)
     (first | cases eo5 | (injection eo5 with ea_ en_ ec_; (first | subst ea_ | (injection ea_ with ea_; subst ea_)); subst ec_; clear en_))
     have GB5 := Aside0.mk gb5
     have GG5 := Aside0.mk HG5
     clear gb5 gl5 HG5
     have HMgo5 := Aside0.mk (show (P0_ go5 ∨ w.heap.size ≤ go5) from (HO_0.out.1 _ rfl))
     obtain ⟨hx5_0, hf5_0⟩ := Kd.R_celln false HO_0.out (x5_1 : Int) p5 q5
     replace p5 := eq_true p5
     replace q5 := eq_true q5
     have HP7 := Kd.R_putg HO_0.out (x5_1 : Int) ((Int.tmod x1_1 3) == 0)
     go_wp2_with (first | ((with_reducible refine gate_store (t := 4) (p := 17) rfl ?_); refine store_event (t := 4) (p := 17) (v := ?vo_w8) (w1 := (wr.setCell ⟨go5, (x5_1 : Int).toNat, none⟩ (.bool ((Int.tmod x1_1 3) == 0)))) ?hg ?ho ?hn ?hr ?_; (case ho => rfl); (case hg => rfl); (case hn => rfl); (case hr => first | (go_simp; done) | (go_simp; rfl)); intro w8 hw; have hg : wr.grownBy w8 (some go5) := (by rw [hw]; exact HP7.2); have hp_ : Kd.R Kd.bool 4 w8 w0.heap.size (fun k_ => (P0_ k_ ∨ w.heap.size ≤ k_)) (.slice (some ⟨go5, 0, none⟩) x0_1.length co6) y1135 := (by rw [hw, Ny1135.out]; exact HP7.1); clear HP7; replace HB := Aside0.mk ((by rw [hw]; exact below_set (HB.out) GB5.out : Below w0.heap.size w0 w8)); replace HK := Aside0.mk (Kept.of_grown (S := (fun k_ => P0_ k_)) hg (kt_ HK.out) (fun k_ e_ => (HO_0.out.1 k_ e_))); replace HO_0 := Aside0.mk (hp_); clear hg hw hp_))
     go_roundg k1
     case measure => have := HK1.out; omega
     case rel => exact ⟨(y1135), (wrap64 (x1_1 + 1)), (wrap64 (x5_1 + 1)), (by first | rfl | (simp; done) | (simp [*]; done)), (by first | rfl | (simp; done) | (simp [*]; done)), H', ⟨by have := HK1.out; omega⟩, ⟨by (with_reducible repeat (first | apply Kd.R_alloc | apply Kd.R_drewN | apply Kd.R_drew)); first | exact HO_0.out | (rw [Ny1135.out]; exact (Kd.R_putg (Kd.R_drewN HO_0.out _) _ _).1) | (rw [Ny1135.out]; exact (Kd.R_putg HO_0.out _ _).1)⟩, ⟨kt_ HK.out⟩, ⟨by repeat (first | (with_reducible first | exact HB.out | apply below_alloc | apply pw_below_drewN | apply below_drew1) | exact HB.out | (first | exact below_set (pw_below_drewN HB.out _) GB5.out | exact below_set HB.out GB5.out))⟩⟩
    ·
     rw [if_neg c4] at H
     exact absurd H (by simp)
   ·
    rw [if_neg c3] at H
    have c3b0 : decide (x5_1 < (x0_1.length : Int)) = false := decide_eq_false c3
    clear c3
    simp only [Option.some.injEq, Prod.mk.injEq] at H
    obtain ⟨rfl, rfl⟩ := H
    obtain ⟨Ao9, co9, eo9⟩ := Kd.R_slice HO_0.out
    subst eo9
    go_wp2
    go_ret
    exact ⟨rr_, kr_ HO_0.out, lb0_ HB.out, kt_ HK.out⟩
def laws_markExploration.f (k : Nat) (l0_0 : List (S37)) (l0_1 : List Bool) (l0_2 : List Bool) (a0_3 : Int) (a0_4 : Int) (a1 : Int) : Option (Int × (List (S37)) × List Bool × List Bool) := (laws_markLegS.f k l0_0 a1).bind fun bt1137 => ((laws_markBoolS.f k l0_1 bt1137.1).bind fun bt1139 => ((laws_markBoolS.f k l0_2 bt1139.1).bind fun bt1141 => (some (bt1141.1, bt1137.2, bt1139.2, bt1141.2))))
set_option maxHeartbeats 8000000 in
set_option maxRecDepth 100000 in
theorem laws_markExploration.calls (k : Nat) (P0_0_ : Nat → Prop) (u9000_ : Value) (l0_0 : List (S37)) (P0_1_ : Nat → Prop) (u9001_ : Value) (l0_1 : List Bool) (P0_2_ : Nat → Prop) (u9002_ : Value) (l0_2 : List Bool) (a0_3 : Int) (a0_4 : Int) (a1 : Int) (r1 : Int) (r2 : List (S37)) (r3 : List Bool) (r4 : List Bool) (w0 w : World) (hB : Below w0.heap.size w0 w) (ho0_0 : Kd.R k37 37 w w0.heap.size P0_0_ u9000_ l0_0) (ho0_1 : Kd.R Kd.bool 4 w w0.heap.size P0_1_ u9001_ l0_1) (hp0_1_0_2 : ∀ k_, P0_1_ k_ → ¬ P0_2_ k_) (ho0_2 : Kd.R Kd.bool 4 w w0.heap.size P0_2_ u9002_ l0_2) (hp0_2_0_1 : ∀ k_, P0_2_ k_ → ¬ P0_1_ k_) (h : laws_markExploration.f k l0_0 l0_1 l0_2 a0_3 a0_4 a1 = some (r1, r2, r3, r4)) :
  Calls Try.prog 41 #[.agg #[u9000_, u9001_, u9002_, .int .i64 a0_3, .int .i64 a0_4], .int .i64 a1] w fun e w' => e = .returned (.int .i64 r1) ∧ Kd.R k37 37 w' w0.heap.size (fun k_ => ((P0_0_ k_ ∨ P0_1_ k_ ∨ P0_2_ k_) ∨ w.heap.size ≤ k_)) u9000_ r2 ∧ Kd.R Kd.bool 4 w' w0.heap.size (fun k_ => ((P0_0_ k_ ∨ P0_1_ k_ ∨ P0_2_ k_) ∨ w.heap.size ≤ k_)) u9001_ r3 ∧ Kd.R Kd.bool 4 w' w0.heap.size (fun k_ => ((P0_0_ k_ ∨ P0_1_ k_ ∨ P0_2_ k_) ∨ w.heap.size ≤ k_)) u9002_ r4 ∧ Below w0.heap.size w0 w' ∧ Kept w w' (fun k_ => P0_0_ k_ ∨ P0_1_ k_ ∨ P0_2_ k_) := by
 have hu30 := Try.underlying30
 have HO0_0 := Aside0.mk (show Kd.R k37 37 w w0.heap.size (fun k_ => ((P0_0_ k_ ∨ P0_1_ k_ ∨ P0_2_ k_) ∨ w.heap.size ≤ k_)) u9000_ l0_0 from Kd.R_mono ho0_0 (fun k_ hk => (.inl (.inl hk))))
 have HO0_1 := Aside0.mk (show Kd.R Kd.bool 4 w w0.heap.size (fun k_ => ((P0_0_ k_ ∨ P0_1_ k_ ∨ P0_2_ k_) ∨ w.heap.size ≤ k_) ∧ some k_ ≠ (u9002_ : Value).ownBlock) u9001_ l0_1 from Kd.R_mono ho0_1 (fun k_ hk => ⟨(.inl (.inr (.inl hk))), fun e_ => hp0_1_0_2 k_ hk (ho0_2.1 k_ e_.symm)⟩))
 have HO0_2 := Aside0.mk (show Kd.R Kd.bool 4 w w0.heap.size (fun k_ => ((P0_0_ k_ ∨ P0_1_ k_ ∨ P0_2_ k_) ∨ w.heap.size ≤ k_) ∧ some k_ ≠ (u9001_ : Value).ownBlock) u9002_ l0_2 from Kd.R_mono ho0_2 (fun k_ hk => ⟨(.inl (.inr (.inr hk))), fun e_ => hp0_2_0_1 k_ hk (ho0_1.1 k_ e_.symm)⟩))
 have HK := Aside0.mk (Kept.refl w (fun k_ => P0_0_ k_ ∨ P0_1_ k_ ∨ P0_2_ k_))
 have HW0 := Aside0.mk hB.size
 have HB := Aside0.mk hB
 clear hB
 have H : ((laws_markLegS.f k l0_0 a1).bind fun bt1137 => ((laws_markBoolS.f k l0_1 bt1137.1).bind fun bt1139 => ((laws_markBoolS.f k l0_2 bt1139.1).bind fun bt1141 => (some (bt1141.1, bt1137.2, bt1139.2, bt1141.2))))) = some (r1, r2, r3, r4) := h
 clear h
 replace H := Option.bind_eq_some_iff.mp H
 obtain ⟨⟨t1137, t1138⟩, A30, H⟩ := H
 replace H : ((laws_markBoolS.f k l0_1 t1137).bind fun bt1139 => ((laws_markBoolS.f k l0_2 bt1139.1).bind fun bt1141 => (some (bt1141.1, t1138, bt1139.2, bt1141.2)))) = some (r1, r2, r3, r4) := H
 have A3 := Aside0.mk A30
 clear A30
 replace H := Option.bind_eq_some_iff.mp H
 obtain ⟨⟨t1139, t1140⟩, A40, H⟩ := H
 replace H : ((laws_markBoolS.f k l0_2 t1139).bind fun bt1141 => (some (bt1141.1, t1138, t1140, bt1141.2))) = some (r1, r2, r3, r4) := H
 have A4 := Aside0.mk A40
 clear A40
 replace H := Option.bind_eq_some_iff.mp H
 obtain ⟨⟨t1141, t1142⟩, A50, H⟩ := H
 replace H : (some (t1141, t1138, t1140, t1142)) = some (r1, r2, r3, r4) := H
 have A5 := Aside0.mk A50
 clear A50
 simp only [Option.some.injEq, Prod.mk.injEq] at H
 obtain ⟨rfl, rfl, rfl, rfl⟩ := H
 obtain ⟨Ao6, co6, eo6⟩ := Kd.R_slice HO0_0.out
 subst eo6
 obtain ⟨Ao7, co7, eo7⟩ := Kd.R_slice HO0_1.out
 subst eo7
 obtain ⟨Ao8, co8, eo8⟩ := Kd.R_slice HO0_2.out
 subst eo8
 go_enter Try.func41, Try.ntmps41
 go_wp2_with (first | ((with_reducible refine gate_dst (N := 2) rfl ?_); refine box_event ?hg (N := 2) ?hd (cs := #[.slice Ao6 l0_0.length co6, .slice Ao7 l0_1.length co7, .slice Ao8 l0_2.length co8, .int .i64 a0_3, .int .i64 a0_4]) (t := 30) ?hr ?_; (case hd => rfl); (case hg => rfl); (case hr => first | (go_simp; done) | (go_simp; rfl)); intro gb1136 hg w9 hbox hb; replace HO0_0 := Aside0.mk (Kd.R_below (kr_ HO0_0.out) hb); replace HO0_1 := Aside0.mk (Kd.R_below (kr_ HO0_1.out) hb); replace HO0_2 := Aside0.mk (Kd.R_below (kr_ HO0_2.out) hb); have BK1136 := Aside0.mk (hbox); have GW1136 := Aside0.mk ((by rw [hg]; exact (by first | exact HK.out.1 | exact (show Kept w _ (fun k_ => P0_0_ k_ ∨ P0_1_ k_ ∨ P0_2_ k_) from kt_ HK.out).1) : w.heap.size ≤ gb1136)); replace HK := Aside0.mk (Kept.below (S := (fun k_ => P0_0_ k_ ∨ P0_1_ k_ ∨ P0_2_ k_)) (kt_ HK.out) hb); have GE1136 := Aside0.mk ((by rw [hg]; exact (below_size (lb0_ HB.out)) : w0.heap.size ≤ gb1136)); replace HB := Aside0.mk (below_step (lb0_ HB.out) hb); clear hb hbox hg; obtain ⟨hcz10_0, hcz10_1, hcz10_2, hcz10_3, hcz10_4⟩ := cz5_ BK1136.out; obtain ⟨hfz10_0, hfz10_1, hfz10_2, hfz10_3, hfz10_4⟩ := fz5_ BK1136.out) | ((with_reducible refine gate_callee (f := 40) rfl ?_); refine ga_ (some 8) Try.func40 #[.slice Ao6 l0_0.length co6, .int .i64 a1] ?_; (with_reducible refine (laws_markLegS.calls k (fun k_ => some k_ = (.slice Ao6 l0_0.length co6 : Value).ownBlock) (.slice Ao6 l0_0.length co6) l0_0 a1 t1137 t1138 w0 _ ?side1 ?side2 A3.out).mono ?_); (case side1 => exact lb1_ HB.out GE1136.out); (case side2 => exact Kd.R_tight rfl HO0_0.out); rintro e w11 ⟨rfl, hy0, hb, hkp⟩; refine ⟨_, rfl, ?_⟩; replace HO0_1 := Aside0.mk (Kd.R_mono (ok' := fun k_ => ((P0_0_ k_ ∨ P0_1_ k_ ∨ P0_2_ k_) ∨ w.heap.size ≤ k_) ∧ some k_ ≠ (.slice Ao8 l0_2.length co8 : Value).ownBlock) (Kd.R_keptB ((Kd.R_apart' HO0_1.out (Kd.R_typed HO0_0.out) (by decide))) hkp (fun k_ hk_ hs_ => (hk_.2) hs_)) (fun k_ hk_ => ⟨hk_.1.1.1, hk_.1.1.2⟩)); replace HO0_2 := Aside0.mk (Kd.R_mono (ok' := fun k_ => ((P0_0_ k_ ∨ P0_1_ k_ ∨ P0_2_ k_) ∨ w.heap.size ≤ k_) ∧ some k_ ≠ (.slice Ao7 l0_1.length co7 : Value).ownBlock) (Kd.R_keptB ((Kd.R_apart' HO0_2.out (Kd.R_typed HO0_0.out) (by decide))) hkp (fun k_ hk_ hs_ => (hk_.2) hs_)) (fun k_ hk_ => ⟨hk_.1.1.1, hk_.1.1.2⟩)); replace BK1136 := Aside0.mk (blk_kept (bk_ BK1136.out) hkp (fun hs_ => (fun e_ => (Kd.R_ne HO0_0.out BK1136.out (by decide)) e_) hs_)); replace HK := Aside0.mk (Kept.then_ (S := (fun k_ => P0_0_ k_ ∨ P0_1_ k_ ∨ P0_2_ k_)) (by repeat (first | (with_reducible first | exact HK.out | apply Kept.alloc | apply Kept.drewN | apply Kept.drew | refine Kept.setCell ?_ (.inr GW1136.out) _) | exact HK.out)) hkp (fun k_ hs_ => (fun e_ => (HO0_0.out.1 k_ e_.symm)) hs_)); replace HO0_0 := Aside0.mk (Kd.R_reok rfl hy0 (fun k_ e_ => HO0_0.out.1 k_ e_)); replace HB := Aside0.mk (hb); (try clear hb); (try clear hkp); (try clear hy0); obtain ⟨hcz12_0, hcz12_1, hcz12_2, hcz12_3, hcz12_4⟩ := cz5_ BK1136.out; obtain ⟨hfz12_0, hfz12_1, hfz12_2, hfz12_3, hfz12_4⟩ := fz5_ BK1136.out) | ((with_reducible refine gate_callee (f := 91) rfl ?_); refine ga_ (some 12) Try.func91 #[.slice Ao7 l0_1.length co7, .int .i64 t1137] ?_; (with_reducible refine (laws_markBoolS.calls k (fun k_ => some k_ = (.slice Ao7 l0_1.length co7 : Value).ownBlock) (.slice Ao7 l0_1.length co7) l0_1 t1137 t1139 t1140 w0 _ ?side1 ?side2 A4.out).mono ?_); (case side1 => exact lb1_ HB.out GE1136.out); (case side2 => exact Kd.R_tight rfl HO0_1.out); rintro e w13 ⟨rfl, hy0, hb, hkp⟩; refine ⟨_, rfl, ?_⟩; replace HO0_0 := Aside0.mk (Kd.R_mono (ok' := fun k_ => ((P0_0_ k_ ∨ P0_1_ k_ ∨ P0_2_ k_) ∨ w.heap.size ≤ k_)) (Kd.R_keptB ((Kd.R_apart' HO0_0.out (Kd.R_typed HO0_1.out) (by decide))) hkp (fun k_ hk_ hs_ => (hk_.2) hs_)) (fun k_ hk_ => hk_.1.1)); replace HO0_2 := Aside0.mk (Kd.R_mono (ok' := fun k_ => ((P0_0_ k_ ∨ P0_1_ k_ ∨ P0_2_ k_) ∨ w.heap.size ≤ k_) ∧ some k_ ≠ (.slice Ao7 l0_1.length co7 : Value).ownBlock) (Kd.R_keptB (HO0_2.out) hkp (fun k_ hk_ hs_ => (hk_.2) hs_)) (fun k_ hk_ => ⟨hk_.1.1, hk_.1.2⟩)); replace BK1136 := Aside0.mk (blk_kept (bk_ BK1136.out) hkp (fun hs_ => (fun e_ => (Kd.R_ne HO0_1.out BK1136.out (by decide)) e_) hs_)); replace HK := Aside0.mk (Kept.then_ (S := (fun k_ => P0_0_ k_ ∨ P0_1_ k_ ∨ P0_2_ k_)) (by repeat (first | (with_reducible first | exact HK.out | apply Kept.alloc | apply Kept.drewN | apply Kept.drew | refine Kept.setCell ?_ (.inr GW1136.out) _) | exact HK.out)) hkp (fun k_ hs_ => (fun e_ => (HO0_1.out.1 k_ e_.symm).1) hs_)); replace HO0_1 := Aside0.mk (Kd.R_reok rfl hy0 (fun k_ e_ => HO0_1.out.1 k_ e_)); replace HB := Aside0.mk (hb); (try clear hb); (try clear hkp); (try clear hy0); obtain ⟨hcz14_0, hcz14_1, hcz14_2, hcz14_3, hcz14_4⟩ := cz5_ BK1136.out; obtain ⟨hfz14_0, hfz14_1, hfz14_2, hfz14_3, hfz14_4⟩ := fz5_ BK1136.out) | ((with_reducible refine gate_callee (f := 91) rfl ?_); refine ga_ (some 16) Try.func91 #[.slice Ao8 l0_2.length co8, .int .i64 t1139] ?_; (with_reducible refine (laws_markBoolS.calls k (fun k_ => some k_ = (.slice Ao8 l0_2.length co8 : Value).ownBlock) (.slice Ao8 l0_2.length co8) l0_2 t1139 t1141 t1142 w0 _ ?side1 ?side2 A5.out).mono ?_); (case side1 => exact lb1_ HB.out GE1136.out); (case side2 => exact Kd.R_tight rfl HO0_2.out); rintro e w15 ⟨rfl, hy0, hb, hkp⟩; refine ⟨_, rfl, ?_⟩; replace HO0_0 := Aside0.mk (Kd.R_mono (ok' := fun k_ => ((P0_0_ k_ ∨ P0_1_ k_ ∨ P0_2_ k_) ∨ w.heap.size ≤ k_)) (Kd.R_keptB ((Kd.R_apart' HO0_0.out (Kd.R_typed HO0_2.out) (by decide))) hkp (fun k_ hk_ hs_ => (hk_.2) hs_)) (fun k_ hk_ => hk_.1.1)); replace HO0_1 := Aside0.mk (Kd.R_mono (ok' := fun k_ => ((P0_0_ k_ ∨ P0_1_ k_ ∨ P0_2_ k_) ∨ w.heap.size ≤ k_) ∧ some k_ ≠ (.slice Ao8 l0_2.length co8 : Value).ownBlock) (Kd.R_keptB (HO0_1.out) hkp (fun k_ hk_ hs_ => (hk_.2) hs_)) (fun k_ hk_ => ⟨hk_.1.1, hk_.1.2⟩)); replace BK1136 := Aside0.mk (blk_kept (bk_ BK1136.out) hkp (fun hs_ => (fun e_ => (Kd.R_ne HO0_2.out BK1136.out (by decide)) e_) hs_)); replace HK := Aside0.mk (Kept.then_ (S := (fun k_ => P0_0_ k_ ∨ P0_1_ k_ ∨ P0_2_ k_)) (by repeat (first | (with_reducible first | exact HK.out | apply Kept.alloc | apply Kept.drewN | apply Kept.drew | refine Kept.setCell ?_ (.inr GW1136.out) _) | exact HK.out)) hkp (fun k_ hs_ => (fun e_ => (HO0_2.out.1 k_ e_.symm).1) hs_)); replace HO0_2 := Aside0.mk (Kd.R_reok rfl hy0 (fun k_ e_ => HO0_2.out.1 k_ e_)); replace HB := Aside0.mk (hb); (try clear hb); (try clear hkp); (try clear hy0)))
 go_ret
 exact ⟨rr_, kr_ HO0_0.out, krm_ HO0_1.out (fun _ hk => hk.1), krm_ HO0_2.out (fun _ hk => hk.1), lb1_ HB.out GE1136.out, by repeat (first | (with_reducible first | exact HK.out | apply Kept.alloc | apply Kept.drewN | apply Kept.drew | refine Kept.setCell ?_ (.inr GW1136.out) _) | exact HK.out)⟩
def laws_heldLegS.l0 : Nat → List (S37) → Int → Int → Option (Int)
 | 0, _, _, _ => none
 | k + 1, x0, x1, x5 => if x5 < (x0.length : Int) then (if 0 ≤ x5 then (if ((rd_T37 x0 x5).f0) = x1 then (if ((rd_T37 x0 x5).f1) = (wrap64 (x1 + 1)) then (if ((rd_T37 x0 x5).f2) = (wrap64 ((wrap64 (x1 + 1)) + 1)) then (if ((rd_T37 x0 x5).f3) = (wrap64 ((wrap64 ((wrap64 (x1 + 1)) + 1)) + 1)) then (if ((rd_T37 x0 x5).f4) = (wrap64 ((wrap64 ((wrap64 ((wrap64 (x1 + 1)) + 1)) + 1)) + 1)) then (laws_heldLegS.l0 k x0 (wrap64 ((wrap64 ((wrap64 ((wrap64 ((wrap64 (x1 + 1)) + 1)) + 1)) + 1)) + 1)) (wrap64 (x5 + 1))) else (some (-1))) else (some (-1))) else (some (-1))) else (some (-1))) else (some (-1))) else (none)) else (some x1)
def laws_heldLegS.f (k : Nat) (l0 : List (S37)) (a1 : Int) : Option (Int) := laws_heldLegS.l0 k l0 a1 0
set_option maxHeartbeats 8000000 in
set_option maxRecDepth 100000 in
theorem laws_heldLegS.calls (k : Nat) (A0 : Option Addr) (c0 : Nat) (l0 : List (S37)) (a1 : Int) (r : Int) (w : World) (hr0 : Kd.C k37 w A0 l0.length l0) (hc0 : l0.length ≤ c0) (h : laws_heldLegS.f k l0 a1 = some r) :
  Calls Try.prog 92 #[.slice A0 l0.length c0, .int .i64 a1] w fun e w' => e = .returned (.int .i64 r) ∧ Drawn0 w w' := by
 have HR0 := Aside0.mk hr0
 have HC0 := Aside0.mk hc0
 clear hr0 hc0
 have H : (laws_heldLegS.l0 k l0 a1 0) = some r := h
 clear h
 have H' := Aside0.mk H
 clear H
 go_enter Try.func92, Try.ntmps92
 go_wp2
 go_loopg [1, 5] k (fun kq v1 v5 w' => ∃ (x1_1 : Int) (x5_1 : Int), v1 = .int .i64 x1_1 ∧ v5 = .int .i64 x5_1 ∧ Aside0 (laws_heldLegS.l0 kq l0 x1_1 x5_1 = some r) ∧ Aside0 (kq ≤ k) ∧ Drawn0 w w')
 case atStart => exact ⟨(a1), (0), (by first | rfl | (simp; done) | (simp [*]; done)), (by first | rfl | (simp; done) | (simp [*]; done)), H', ⟨Nat.le_refl _⟩, by repeat (first | exact Drawn0.refl _ | apply Drawn0.step)⟩
 case round =>
  clear H'
  try clear p2
  obtain ⟨x1_1, x5_1, rfl, rfl, HA, HK1, ⟨m1, rfl⟩⟩ := hrel
  cases gk with
  | zero => exact absurd HA.out (by simp [laws_heldLegS.l0])
  | succ k1 =>
   have H := HA.out
   clear HA
   simp only [laws_heldLegS.l0] at H
   by_cases c3 : x5_1 < (l0.length : Int)
   ·
    rw [if_pos c3] at H
    have c3b0 : decide (x5_1 < (l0.length : Int)) = true := decide_eq_true c3
    clear c3
    by_cases c4 : 0 ≤ x5_1
    ·
     rw [if_pos c4] at H
     have c4b0 : decide (0 ≤ x5_1) = true := decide_eq_true c4
     clear c4
     by_cases c5 : ((rd_T37 l0 x5_1).f0) = x1_1
     ·
      rw [if_pos c5] at H
      have c5b0 : (((rd_T37 l0 x5_1).f0) == x1_1) = true := beq_iff_eq.mpr c5
      have c5b1 : (((rd_T37 l0 x5_1).f0) != x1_1) = false := bne_eq_false_iff_eq.mpr c5
      clear c5
      by_cases c6 : ((rd_T37 l0 x5_1).f1) = (wrap64 (x1_1 + 1))
      ·
       rw [if_pos c6] at H
       have c6b0 : (((rd_T37 l0 x5_1).f1) == (wrap64 (x1_1 + 1))) = true := beq_iff_eq.mpr c6
       have c6b1 : (((rd_T37 l0 x5_1).f1) != (wrap64 (x1_1 + 1))) = false := bne_eq_false_iff_eq.mpr c6
       clear c6
       by_cases c7 : ((rd_T37 l0 x5_1).f2) = (wrap64 ((wrap64 (x1_1 + 1)) + 1))
       ·
        rw [if_pos c7] at H
        have c7b0 : (((rd_T37 l0 x5_1).f2) == (wrap64 ((wrap64 (x1_1 + 1)) + 1))) = true := beq_iff_eq.mpr c7; have c7b1 : (((rd_T37 l0 x5_1).f2) != (wrap64 ((wrap64 (x1_1 + 1)) + 1))) = false := bne_eq_false_iff_eq.mpr c7; clear c7
        by_cases c8 : ((rd_T37 l0 x5_1).f3) = (wrap64 ((wrap64 ((wrap64 (x1_1 + 1)) + 1)) + 1))
        ·
         rw [if_pos c8] at H
         have c8b0 : (((rd_T37 l0 x5_1).f3) == (wrap64 ((wrap64 ((wrap64 (x1_1 + 1)) + 1)) + 1))) = true := beq_iff_eq.mpr c8; have c8b1 : (((rd_T37 l0 x5_1).f3) != (wrap64 ((wrap64 ((wrap64 (x1_1 + 1)) + 1)) + 1))) = false := bne_eq_false_iff_eq.mpr c8; clear c8
         by_cases c9 : ((rd_T37 l0 x5_1).f4) = (wrap64 ((wrap64 ((wrap64 ((wrap64 (x1_1 + 1)) + 1)) + 1)) + 1))
         ·
          rw [if_pos c9] at H
          have c9b0 : (((rd_T37 l0 x5_1).f4) == (wrap64 ((wrap64 ((wrap64 ((wrap64 (x1_1 + 1)) + 1)) + 1)) + 1))) = true := beq_iff_eq.mpr c9; have c9b1 : (((rd_T37 l0 x5_1).f4) != (wrap64 ((wrap64 ((wrap64 ((wrap64 (x1_1 + 1)) + 1)) + 1)) + 1))) = false := bne_eq_false_iff_eq.mpr c9; clear c9; have H' := Aside0.mk H; clear H; have p1143 : 0 ≤ (x5_1 : Int) := dt_; have q1143 : x5_1 < (l0.length : Int) := dt_; obtain ⟨ad1143, e1143, hx1143_0, hx1143_1, hx1143_2, hx1143_3, hx1143_4⟩ := at_T37 HR0.out x5_1 p1143 q1143
          cases e1143
          replace p1143 := eq_true p1143; replace q1143 := eq_true q1143; have p1144 : 0 ≤ (x5_1 : Int) := dt_; have q1144 : x5_1 < (l0.length : Int) := dt_; obtain ⟨ad1144, e1144, hx1144_0, hx1144_1, hx1144_2, hx1144_3, hx1144_4⟩ := at_T37 HR0.out x5_1 p1144 q1144
          obtain rfl : ad1143 = ad1144 := (by injection e1144)
          replace p1144 := eq_true p1144; replace q1144 := eq_true q1144; have p1145 : 0 ≤ (x5_1 : Int) := dt_; have q1145 : x5_1 < (l0.length : Int) := dt_; obtain ⟨ad1145, e1145, hx1145_0, hx1145_1, hx1145_2, hx1145_3, hx1145_4⟩ := at_T37 HR0.out x5_1 p1145 q1145
          obtain rfl : ad1143 = ad1145 := (by injection e1145)
          replace p1145 := eq_true p1145; replace q1145 := eq_true q1145; have p1146 : 0 ≤ (x5_1 : Int) := dt_; have q1146 : x5_1 < (l0.length : Int) := dt_; obtain ⟨ad1146, e1146, hx1146_0, hx1146_1, hx1146_2, hx1146_3, hx1146_4⟩ := at_T37 HR0.out x5_1 p1146 q1146
          obtain rfl : ad1143 = ad1146 := (by injection e1146)
          replace p1146 := eq_true p1146; replace q1146 := eq_true q1146; have p1147 : 0 ≤ (x5_1 : Int) := dt_; have q1147 : x5_1 < (l0.length : Int) := dt_; obtain ⟨ad1147, e1147, hx1147_0, hx1147_1, hx1147_2, hx1147_3, hx1147_4⟩ := at_T37 HR0.out x5_1 p1147 q1147
          obtain rfl : ad1143 = ad1147 := (by injection e1147)
          replace p1147 := eq_true p1147; replace q1147 := eq_true q1147
          go_wp2
          go_roundg k1
          case measure => have := HK1.out; omega
          case rel => exact ⟨(wrap64 ((wrap64 ((wrap64 ((wrap64 ((wrap64 (x1_1 + 1)) + 1)) + 1)) + 1)) + 1)), (wrap64 (x5_1 + 1)), (by first | rfl | (simp; done) | (simp [*]; done)), (by first | rfl | (simp; done) | (simp [*]; done)), H', ⟨by have := HK1.out; omega⟩, by repeat (first | exact Drawn0.refl _ | apply Drawn0.step)⟩
         ·
          rw [if_neg c9] at H
          have c9b0 : (((rd_T37 l0 x5_1).f4) == (wrap64 ((wrap64 ((wrap64 ((wrap64 (x1_1 + 1)) + 1)) + 1)) + 1))) = false := beq_eq_false_iff_ne.mpr c9; have c9b1 : (((rd_T37 l0 x5_1).f4) != (wrap64 ((wrap64 ((wrap64 ((wrap64 (x1_1 + 1)) + 1)) + 1)) + 1))) = true := bne_iff_ne.mpr c9; obtain rfl := Option.some.inj H; have p1143 : 0 ≤ (x5_1 : Int) := dt_; have q1143 : x5_1 < (l0.length : Int) := dt_; obtain ⟨ad1143, e1143, hx1143_0, hx1143_1, hx1143_2, hx1143_3, hx1143_4⟩ := at_T37 HR0.out x5_1 p1143 q1143
          cases e1143
          replace p1143 := eq_true p1143; replace q1143 := eq_true q1143; have p1144 : 0 ≤ (x5_1 : Int) := dt_; have q1144 : x5_1 < (l0.length : Int) := dt_; obtain ⟨ad1144, e1144, hx1144_0, hx1144_1, hx1144_2, hx1144_3, hx1144_4⟩ := at_T37 HR0.out x5_1 p1144 q1144
          obtain rfl : ad1143 = ad1144 := (by injection e1144)
          replace p1144 := eq_true p1144; replace q1144 := eq_true q1144; have p1145 : 0 ≤ (x5_1 : Int) := dt_; have q1145 : x5_1 < (l0.length : Int) := dt_; obtain ⟨ad1145, e1145, hx1145_0, hx1145_1, hx1145_2, hx1145_3, hx1145_4⟩ := at_T37 HR0.out x5_1 p1145 q1145
          obtain rfl : ad1143 = ad1145 := (by injection e1145)
          replace p1145 := eq_true p1145; replace q1145 := eq_true q1145; have p1146 : 0 ≤ (x5_1 : Int) := dt_; have q1146 : x5_1 < (l0.length : Int) := dt_; obtain ⟨ad1146, e1146, hx1146_0, hx1146_1, hx1146_2, hx1146_3, hx1146_4⟩ := at_T37 HR0.out x5_1 p1146 q1146
          obtain rfl : ad1143 = ad1146 := (by injection e1146)
          replace p1146 := eq_true p1146; replace q1146 := eq_true q1146; have p1147 : 0 ≤ (x5_1 : Int) := dt_; have q1147 : x5_1 < (l0.length : Int) := dt_; obtain ⟨ad1147, e1147, hx1147_0, hx1147_1, hx1147_2, hx1147_3, hx1147_4⟩ := at_T37 HR0.out x5_1 p1147 q1147
          obtain rfl : ad1143 = ad1147 := (by injection e1147)
          replace p1147 := eq_true p1147; replace q1147 := eq_true q1147
          go_wp2
          go_ret
          exact ⟨by first | rfl | (simp; done) | (simp [*]; done), by repeat (first | exact Drawn0.refl _ | apply Drawn0.step)⟩
        ·
         rw [if_neg c8] at H
         have c8b0 : (((rd_T37 l0 x5_1).f3) == (wrap64 ((wrap64 ((wrap64 (x1_1 + 1)) + 1)) + 1))) = false := beq_eq_false_iff_ne.mpr c8; have c8b1 : (((rd_T37 l0 x5_1).f3) != (wrap64 ((wrap64 ((wrap64 (x1_1 + 1)) + 1)) + 1))) = true := bne_iff_ne.mpr c8; obtain rfl := Option.some.inj H; have p1143 : 0 ≤ (x5_1 : Int) := dt_; have q1143 : x5_1 < (l0.length : Int) := dt_; obtain ⟨ad1143, e1143, hx1143_0, hx1143_1, hx1143_2, hx1143_3, hx1143_4⟩ := at_T37 HR0.out x5_1 p1143 q1143
         cases e1143
         replace p1143 := eq_true p1143; replace q1143 := eq_true q1143; have p1144 : 0 ≤ (x5_1 : Int) := dt_; have q1144 : x5_1 < (l0.length : Int) := dt_; obtain ⟨ad1144, e1144, hx1144_0, hx1144_1, hx1144_2, hx1144_3, hx1144_4⟩ := at_T37 HR0.out x5_1 p1144 q1144
         obtain rfl : ad1143 = ad1144 := (by injection e1144)
         replace p1144 := eq_true p1144; replace q1144 := eq_true q1144; have p1145 : 0 ≤ (x5_1 : Int) := dt_; have q1145 : x5_1 < (l0.length : Int) := dt_; obtain ⟨ad1145, e1145, hx1145_0, hx1145_1, hx1145_2, hx1145_3, hx1145_4⟩ := at_T37 HR0.out x5_1 p1145 q1145
         obtain rfl : ad1143 = ad1145 := (by injection e1145)
         replace p1145 := eq_true p1145; replace q1145 := eq_true q1145; have p1146 : 0 ≤ (x5_1 : Int) := dt_; have q1146 : x5_1 < (l0.length : Int) := dt_; obtain ⟨ad1146, e1146, hx1146_0, hx1146_1, hx1146_2, hx1146_3, hx1146_4⟩ := at_T37 HR0.out x5_1 p1146 q1146
         obtain rfl : ad1143 = ad1146 := (by injection e1146)
         replace p1146 := eq_true p1146; replace q1146 := eq_true q1146
         go_wp2
         go_ret
         exact ⟨by first | rfl | (simp; done) | (simp [*]; done), by repeat (first | exact Drawn0.refl _ | apply Drawn0.step)⟩
       ·
        rw [if_neg c7] at H
        have c7b0 : (((rd_T37 l0 x5_1).f2) == (wrap64 ((wrap64 (x1_1 + 1)) + 1))) = false := beq_eq_false_iff_ne.mpr c7; have c7b1 : (((rd_T37 l0 x5_1).f2) != (wrap64 ((wrap64 (x1_1 + 1)) + 1))) = true := bne_iff_ne.mpr c7; obtain rfl := Option.some.inj H; have p1143 : 0 ≤ (x5_1 : Int) := dt_; have q1143 : x5_1 < (l0.length : Int) := dt_; obtain ⟨ad1143, e1143, hx1143_0, hx1143_1, hx1143_2, hx1143_3, hx1143_4⟩ := at_T37 HR0.out x5_1 p1143 q1143
        cases e1143
        replace p1143 := eq_true p1143; replace q1143 := eq_true q1143; have p1144 : 0 ≤ (x5_1 : Int) := dt_; have q1144 : x5_1 < (l0.length : Int) := dt_; obtain ⟨ad1144, e1144, hx1144_0, hx1144_1, hx1144_2, hx1144_3, hx1144_4⟩ := at_T37 HR0.out x5_1 p1144 q1144
        obtain rfl : ad1143 = ad1144 := (by injection e1144)
        replace p1144 := eq_true p1144; replace q1144 := eq_true q1144; have p1145 : 0 ≤ (x5_1 : Int) := dt_; have q1145 : x5_1 < (l0.length : Int) := dt_; obtain ⟨ad1145, e1145, hx1145_0, hx1145_1, hx1145_2, hx1145_3, hx1145_4⟩ := at_T37 HR0.out x5_1 p1145 q1145
        obtain rfl : ad1143 = ad1145 := (by injection e1145)
        replace p1145 := eq_true p1145; replace q1145 := eq_true q1145
        go_wp2
        go_ret
        exact ⟨by first | rfl | (simp; done) | (simp [*]; done), by repeat (first | exact Drawn0.refl _ | apply Drawn0.step)⟩
      ·
       rw [if_neg c6] at H
       have c6b0 : (((rd_T37 l0 x5_1).f1) == (wrap64 (x1_1 + 1))) = false := beq_eq_false_iff_ne.mpr c6
       have c6b1 : (((rd_T37 l0 x5_1).f1) != (wrap64 (x1_1 + 1))) = true := bne_iff_ne.mpr c6
       obtain rfl := Option.some.inj H
       have p1143 : 0 ≤ (x5_1 : Int) := dt_
       have q1143 : x5_1 < (l0.length : Int) := dt_
       obtain ⟨ad1143, e1143, hx1143_0, hx1143_1, hx1143_2, hx1143_3, hx1143_4⟩ := at_T37 HR0.out x5_1 p1143 q1143
       cases e1143
       replace p1143 := eq_true p1143
       replace q1143 := eq_true q1143
       have p1144 : 0 ≤ (x5_1 : Int) := dt_
       have q1144 : x5_1 < (l0.length : Int) := dt_
       obtain ⟨ad1144, e1144, hx1144_0, hx1144_1, hx1144_2, hx1144_3, hx1144_4⟩ := at_T37 HR0.out x5_1 p1144 q1144
       obtain rfl : ad1143 = ad1144 := (by injection e1144)
       replace p1144 := eq_true p1144
       replace q1144 := eq_true q1144
       go_wp2
       go_ret
       exact ⟨by first | rfl | (simp; done) | (simp [*]; done), by repeat (first | exact Drawn0.refl _ | apply Drawn0.step)⟩
     ·
      rw [if_neg c5] at H
      have c5b0 : (((rd_T37 l0 x5_1).f0) == x1_1) = false := beq_eq_false_iff_ne.mpr c5
      have c5b1 : (((rd_T37 l0 x5_1).f0) != x1_1) = true := bne_iff_ne.mpr c5
      obtain rfl := Option.some.inj H
      have p1143 : 0 ≤ (x5_1 : Int) := dt_
      have q1143 : x5_1 < (l0.length : Int) := dt_
      obtain ⟨ad1143, e1143, hx1143_0, hx1143_1, hx1143_2, hx1143_3, hx1143_4⟩ := at_T37 HR0.out x5_1 p1143 q1143
      cases e1143
      replace p1143 := eq_true p1143
      replace q1143 := eq_true q1143
      go_wp2
      go_ret
      exact ⟨by first | rfl | (simp; done) | (simp [*]; done), by repeat (first | exact Drawn0.refl _ | apply Drawn0.step)⟩
    ·
     rw [if_neg c4] at H
     exact absurd H (by simp)
   ·
    rw [if_neg c3] at H
    have c3b0 : decide (x5_1 < (l0.length : Int)) = false := decide_eq_false c3
    clear c3
    obtain rfl := Option.some.inj H
    go_wp2
    go_ret
    exact ⟨by first | rfl | (simp; done) | (simp [*]; done), by repeat (first | exact Drawn0.refl _ | apply Drawn0.step)⟩
def laws_heldBoolS.l0 : Nat → List Bool → Int → Int → Option (Int)
 | 0, _, _, _ => none
 | k + 1, x0, x1, x5 => if x5 < (x0.length : Int) then (if 0 ≤ x5 then (if ((rdOf false x0 x5) != ((Int.tmod x1 3) == 0)) = true then (some (-1)) else (laws_heldBoolS.l0 k x0 (wrap64 (x1 + 1)) (wrap64 (x5 + 1)))) else (none)) else (some x1)
def laws_heldBoolS.f (k : Nat) (l0 : List Bool) (a1 : Int) : Option (Int) := laws_heldBoolS.l0 k l0 a1 0
set_option maxHeartbeats 8000000 in
set_option maxRecDepth 100000 in
theorem laws_heldBoolS.calls (k : Nat) (A0 : Option Addr) (c0 : Nat) (l0 : List Bool) (a1 : Int) (r : Int) (w : World) (hr0 : Kd.C Kd.bool w A0 l0.length l0) (hc0 : l0.length ≤ c0) (h : laws_heldBoolS.f k l0 a1 = some r) :
  Calls Try.prog 93 #[.slice A0 l0.length c0, .int .i64 a1] w fun e w' => e = .returned (.int .i64 r) ∧ Drawn0 w w' := by
 have HR0 := Aside0.mk hr0
 have HC0 := Aside0.mk hc0
 clear hr0 hc0
 have H : (laws_heldBoolS.l0 k l0 a1 0) = some r := h
 clear h
 have H' := Aside0.mk H
 clear H
 go_enter Try.func93, Try.ntmps93
 go_wp2
 go_loopg [1, 5] k (fun kq v1 v5 w' => ∃ (x1_1 : Int) (x5_1 : Int), v1 = .int .i64 x1_1 ∧ v5 = .int .i64 x5_1 ∧ Aside0 (laws_heldBoolS.l0 kq l0 x1_1 x5_1 = some r) ∧ Aside0 (kq ≤ k) ∧ Drawn0 w w')
 case atStart => exact ⟨(a1), (0), (by first | rfl | (simp; done) | (simp [*]; done)), (by first | rfl | (simp; done) | (simp [*]; done)), H', ⟨Nat.le_refl _⟩, by repeat (first | exact Drawn0.refl _ | apply Drawn0.step)⟩
 case round =>
  clear H'
  try clear p2
  obtain ⟨x1_1, x5_1, rfl, rfl, HA, HK1, ⟨m1, rfl⟩⟩ := hrel
  cases gk with
  | zero => exact absurd HA.out (by simp [laws_heldBoolS.l0])
  | succ k1 =>
   have H := HA.out
   clear HA
   simp only [laws_heldBoolS.l0] at H
   by_cases c3 : x5_1 < (l0.length : Int)
   ·
    rw [if_pos c3] at H
    have c3b0 : decide (x5_1 < (l0.length : Int)) = true := decide_eq_true c3
    clear c3
    by_cases c4 : 0 ≤ x5_1
    ·
     rw [if_pos c4] at H
     have c4b0 : decide (0 ≤ x5_1) = true := decide_eq_true c4
     clear c4
     by_cases c5 : ((rdOf false l0 x5_1) != ((Int.tmod x1_1 3) == 0)) = true
     ·
      rw [if_pos c5] at H
      have c5b0 : ((rdOf false l0 x5_1) != ((Int.tmod x1_1 3) == 0)) = true := c5
      (try (have c5b1 : decide ((rdOf false l0 x5_1) = ((Int.tmod x1_1 3) == 0)) = false := by simpa using c5))
      (try (have c5b2 : ((rdOf false l0 x5_1) == ((Int.tmod x1_1 3) == 0)) = false := by simpa using c5))
      (try (have c5b3 : ¬ ((rdOf false l0 x5_1) = ((Int.tmod x1_1 3) == 0)) := by simpa using c5))
      clear c5
      obtain rfl := Option.some.inj H
      have p1148 : 0 ≤ (x5_1 : Int) := dt_
      have q1148 : x5_1 < (l0.length : Int) := dt_
      obtain ⟨ad1148, e1148, hx1148_0⟩ := Kd.at_bool HR0.out x5_1 p1148 q1148
      cases e1148
      replace p1148 := eq_true p1148
      replace q1148 := eq_true q1148
      go_wp2
      go_ret
      exact ⟨by first | rfl | (simp; done) | (simp [*]; done), by repeat (first | exact Drawn0.refl _ | apply Drawn0.step)⟩
     ·
      rw [if_neg c5] at H
      have c5b0 : ((rdOf false l0 x5_1) != ((Int.tmod x1_1 3) == 0)) = false := by simpa using c5
      (try (have c5b1 : decide ((rdOf false l0 x5_1) = ((Int.tmod x1_1 3) == 0)) = true := by simpa using c5))
      (try (have c5b2 : ((rdOf false l0 x5_1) == ((Int.tmod x1_1 3) == 0)) = true := by simpa using c5))
      clear c5
      have H' := Aside0.mk H
      clear H
      have p1148 : 0 ≤ (x5_1 : Int) := dt_
      have q1148 : x5_1 < (l0.length : Int) := dt_
      obtain ⟨ad1148, e1148, hx1148_0⟩ := Kd.at_bool HR0.out x5_1 p1148 q1148
      cases e1148
      replace p1148 := eq_true p1148
      replace q1148 := eq_true q1148
      go_wp2
      go_roundg k1
      case measure => have := HK1.out; omega
      case rel => exact ⟨(wrap64 (x1_1 + 1)), (wrap64 (x5_1 + 1)), (by first | rfl | (simp; done) | (simp [*]; done)), (by first | rfl | (simp; done) | (simp [*]; done)), H', ⟨by have := HK1.out; omega⟩, by repeat (first | exact Drawn0.refl _ | apply Drawn0.step)⟩
    ·
     rw [if_neg c4] at H
     exact absurd H (by simp)
   ·
    rw [if_neg c3] at H
    have c3b0 : decide (x5_1 < (l0.length : Int)) = false := decide_eq_false c3
    clear c3
    obtain rfl := Option.some.inj H
    go_wp2
    go_ret
    exact ⟨by first | rfl | (simp; done) | (simp [*]; done), by repeat (first | exact Drawn0.refl _ | apply Drawn0.step)⟩
def laws_heldExploration.f (k : Nat) (l0_0 : List (S37)) (l0_1 : List Bool) (l0_2 : List Bool) (a0_3 : Int) (a0_4 : Int) (a1 : Int) : Option (Int) := (laws_heldLegS.f k l0_0 a1).bind fun t1150 => (if t1150 < 0 then (some (-1)) else ((laws_heldBoolS.f k l0_1 t1150).bind fun t1151 => (if t1151 < 0 then (some (-1)) else ((laws_heldBoolS.f k l0_2 t1151).bind fun t1152 => (if t1152 < 0 then (some (-1)) else (some t1152))))))
set_option maxHeartbeats 8000000 in
set_option maxRecDepth 100000 in
theorem laws_heldExploration.calls (k : Nat) (A0_0 : Option Addr) (c0_0 : Nat) (l0_0 : List (S37)) (A0_1 : Option Addr) (c0_1 : Nat) (l0_1 : List Bool) (A0_2 : Option Addr) (c0_2 : Nat) (l0_2 : List Bool) (a0_3 : Int) (a0_4 : Int) (a1 : Int) (r : Int) (w : World) (hr0_0 : Kd.C k37 w A0_0 l0_0.length l0_0) (hc0_0 : l0_0.length ≤ c0_0) (hr0_1 : Kd.C Kd.bool w A0_1 l0_1.length l0_1) (hc0_1 : l0_1.length ≤ c0_1) (hr0_2 : Kd.C Kd.bool w A0_2 l0_2.length l0_2) (hc0_2 : l0_2.length ≤ c0_2) (h : laws_heldExploration.f k l0_0 l0_1 l0_2 a0_3 a0_4 a1 = some r) :
  Calls Try.prog 42 #[.agg #[.slice A0_0 l0_0.length c0_0, .slice A0_1 l0_1.length c0_1, .slice A0_2 l0_2.length c0_2, .int .i64 a0_3, .int .i64 a0_4], .int .i64 a1] w fun e w' => e = .returned (.int .i64 r) ∧ Below w.heap.size w w' := by
 have hu30 := Try.underlying30
 have HR0_0 := Aside0.mk hr0_0
 have HC0_0 := Aside0.mk hc0_0
 clear hr0_0 hc0_0
 have HR0_1 := Aside0.mk hr0_1
 have HC0_1 := Aside0.mk hc0_1
 clear hr0_1 hc0_1
 have HR0_2 := Aside0.mk hr0_2
 have HC0_2 := Aside0.mk hc0_2
 clear hr0_2 hc0_2
 have HB := Aside0.mk (Below.refl w.heap.size w)
 have H : ((laws_heldLegS.f k l0_0 a1).bind fun t1150 => (if t1150 < 0 then (some (-1)) else ((laws_heldBoolS.f k l0_1 t1150).bind fun t1151 => (if t1151 < 0 then (some (-1)) else ((laws_heldBoolS.f k l0_2 t1151).bind fun t1152 => (if t1152 < 0 then (some (-1)) else (some t1152))))))) = some r := h
 clear h
 replace H := Option.bind_eq_some_iff.mp H
 obtain ⟨t1150, A30, H⟩ := H
 replace H : (if t1150 < 0 then (some (-1)) else ((laws_heldBoolS.f k l0_1 t1150).bind fun t1151 => (if t1151 < 0 then (some (-1)) else ((laws_heldBoolS.f k l0_2 t1151).bind fun t1152 => (if t1152 < 0 then (some (-1)) else (some t1152)))))) = some r := H
 have A3 := Aside0.mk A30
 clear A30
 by_cases c4 : t1150 < 0
 ·
  rw [if_pos c4] at H
  have c4b0 : decide (t1150 < 0) = true := decide_eq_true c4
  clear c4
  obtain rfl := Option.some.inj H
  go_enter Try.func42, Try.ntmps42
  go_wp2_with (first | ((with_reducible refine gate_dst (N := 2) rfl ?_); refine box_event ?hg (N := 2) ?hd (cs := #[.slice A0_0 l0_0.length c0_0, .slice A0_1 l0_1.length c0_1, .slice A0_2 l0_2.length c0_2, .int .i64 a0_3, .int .i64 a0_4]) (t := 30) ?hr ?_; (case hd => rfl); (case hg => rfl); (case hr => first | (go_simp; done) | (go_simp; rfl)); intro gb1149 hg w5 hbox hb; have BK1149 := Aside0.mk (hbox); have GW1149 := Aside0.mk ((bz_ hg (lb0_ HB.out))); have GE1149 := Aside0.mk ((bz_ hg (lb0_ HB.out))); replace HB := Aside0.mk (below_step (lb0_ HB.out) hb); clear hb hbox hg; obtain ⟨hcz6_0, hcz6_1, hcz6_2, hcz6_3, hcz6_4⟩ := cz5_ BK1149.out; obtain ⟨hfz6_0, hfz6_1, hfz6_2, hfz6_3, hfz6_4⟩ := fz5_ BK1149.out) | ((with_reducible refine gate_callee (f := 92) rfl ?_); refine ga_ (some 8) Try.func92 #[.slice A0_0 l0_0.length c0_0, .int .i64 a1] ?_; (with_reducible refine (laws_heldLegS.calls k _ _ l0_0 a1 t1150 _ ?side1 ?side2 A3.out).mono ?_); (case side1 => exact kc_ (Kd.C_below HR0_0.out HB.out)); (case side2 => exact HC0_0.out); rintro e w' ⟨rfl, ⟨nd, rfl⟩⟩; refine ⟨_, rfl, ?_⟩))
  go_ret
  exact ⟨rr_, lb1_ HB.out GE1149.out⟩
 ·
  rw [if_neg c4] at H
  have c4b0 : decide (t1150 < 0) = false := decide_eq_false c4
  clear c4
  replace H := Option.bind_eq_some_iff.mp H
  obtain ⟨t1151, A70, H⟩ := H
  replace H : (if t1151 < 0 then (some (-1)) else ((laws_heldBoolS.f k l0_2 t1151).bind fun t1152 => (if t1152 < 0 then (some (-1)) else (some t1152)))) = some r := H
  have A7 := Aside0.mk A70
  clear A70
  by_cases c8 : t1151 < 0
  ·
   rw [if_pos c8] at H
   have c8b0 : decide (t1151 < 0) = true := decide_eq_true c8
   clear c8
   obtain rfl := Option.some.inj H
   go_enter Try.func42, Try.ntmps42
   go_wp2_with (first | ((with_reducible refine gate_dst (N := 2) rfl ?_); refine box_event ?hg (N := 2) ?hd (cs := #[.slice A0_0 l0_0.length c0_0, .slice A0_1 l0_1.length c0_1, .slice A0_2 l0_2.length c0_2, .int .i64 a0_3, .int .i64 a0_4]) (t := 30) ?hr ?_; (case hd => rfl); (case hg => rfl); (case hr => first | (go_simp; done) | (go_simp; rfl)); intro gb1149 hg w9 hbox hb; have BK1149 := Aside0.mk (hbox); have GW1149 := Aside0.mk ((bz_ hg (lb0_ HB.out))); have GE1149 := Aside0.mk ((bz_ hg (lb0_ HB.out))); replace HB := Aside0.mk (below_step (lb0_ HB.out) hb); clear hb hbox hg; obtain ⟨hcz10_0, hcz10_1, hcz10_2, hcz10_3, hcz10_4⟩ := cz5_ BK1149.out; obtain ⟨hfz10_0, hfz10_1, hfz10_2, hfz10_3, hfz10_4⟩ := fz5_ BK1149.out) | ((with_reducible refine gate_callee (f := 92) rfl ?_); refine ga_ (some 8) Try.func92 #[.slice A0_0 l0_0.length c0_0, .int .i64 a1] ?_; (with_reducible refine (laws_heldLegS.calls k _ _ l0_0 a1 t1150 _ ?side1 ?side2 A3.out).mono ?_); (case side1 => exact kc_ (Kd.C_below HR0_0.out HB.out)); (case side2 => exact HC0_0.out); rintro e w' ⟨rfl, ⟨nd, rfl⟩⟩; refine ⟨_, rfl, ?_⟩) | ((with_reducible refine gate_callee (f := 93) rfl ?_); refine ga_ (some 14) Try.func93 #[.slice A0_1 l0_1.length c0_1, .int .i64 t1150] ?_; (with_reducible refine (laws_heldBoolS.calls k _ _ l0_1 t1150 t1151 _ ?side1 ?side2 A7.out).mono ?_); (case side1 => exact kc_ (Kd.C_below HR0_1.out (lb1_ HB.out GE1149.out))); (case side2 => exact HC0_1.out); rintro e w' ⟨rfl, ⟨nd, rfl⟩⟩; refine ⟨_, rfl, ?_⟩))
   go_ret
   exact ⟨rr_, lb1_ HB.out GE1149.out⟩
  ·
   rw [if_neg c8] at H
   have c8b0 : decide (t1151 < 0) = false := decide_eq_false c8
   clear c8
   replace H := Option.bind_eq_some_iff.mp H
   obtain ⟨t1152, A110, H⟩ := H
   replace H : (if t1152 < 0 then (some (-1)) else (some t1152)) = some r := H
   have A11 := Aside0.mk A110
   clear A110
   by_cases c12 : t1152 < 0
   ·
    rw [if_pos c12] at H
    have c12b0 : decide (t1152 < 0) = true := decide_eq_true c12
    clear c12
    obtain rfl := Option.some.inj H
    go_enter Try.func42, Try.ntmps42
    go_wp2_with (first | ((with_reducible refine gate_dst (N := 2) rfl ?_); refine box_event ?hg (N := 2) ?hd (cs := #[.slice A0_0 l0_0.length c0_0, .slice A0_1 l0_1.length c0_1, .slice A0_2 l0_2.length c0_2, .int .i64 a0_3, .int .i64 a0_4]) (t := 30) ?hr ?_; (case hd => rfl); (case hg => rfl); (case hr => first | (go_simp; done) | (go_simp; rfl)); intro gb1149 hg w13 hbox hb; have BK1149 := Aside0.mk (hbox); have GW1149 := Aside0.mk ((bz_ hg (lb0_ HB.out))); have GE1149 := Aside0.mk ((bz_ hg (lb0_ HB.out))); replace HB := Aside0.mk (below_step (lb0_ HB.out) hb); clear hb hbox hg; obtain ⟨hcz14_0, hcz14_1, hcz14_2, hcz14_3, hcz14_4⟩ := cz5_ BK1149.out; obtain ⟨hfz14_0, hfz14_1, hfz14_2, hfz14_3, hfz14_4⟩ := fz5_ BK1149.out) | ((with_reducible refine gate_callee (f := 92) rfl ?_); refine ga_ (some 8) Try.func92 #[.slice A0_0 l0_0.length c0_0, .int .i64 a1] ?_; (with_reducible refine (laws_heldLegS.calls k _ _ l0_0 a1 t1150 _ ?side1 ?side2 A3.out).mono ?_); (case side1 => exact kc_ (Kd.C_below HR0_0.out HB.out)); (case side2 => exact HC0_0.out); rintro e w' ⟨rfl, ⟨nd, rfl⟩⟩; refine ⟨_, rfl, ?_⟩) | ((with_reducible refine gate_callee (f := 93) rfl ?_); refine ga_ (some 14) Try.func93 #[.slice A0_1 l0_1.length c0_1, .int .i64 t1150] ?_; (with_reducible refine (laws_heldBoolS.calls k _ _ l0_1 t1150 t1151 _ ?side1 ?side2 A7.out).mono ?_); (case side1 => exact kc_ (Kd.C_below HR0_1.out (lb1_ HB.out GE1149.out))); (case side2 => exact HC0_1.out); rintro e w' ⟨rfl, ⟨nd, rfl⟩⟩; refine ⟨_, rfl, ?_⟩) | ((with_reducible refine gate_callee (f := 93) rfl ?_); refine ga_ (some 20) Try.func93 #[.slice A0_2 l0_2.length c0_2, .int .i64 t1151] ?_; (with_reducible refine (laws_heldBoolS.calls k _ _ l0_2 t1151 t1152 _ ?side1 ?side2 A11.out).mono ?_); (case side1 => exact kc_ (Kd.C_below HR0_2.out (lb1_ HB.out GE1149.out))); (case side2 => exact HC0_2.out); rintro e w' ⟨rfl, ⟨nd, rfl⟩⟩; refine ⟨_, rfl, ?_⟩))
    go_ret
    exact ⟨rr_, lb1_ HB.out GE1149.out⟩
   ·
    rw [if_neg c12] at H
    have c12b0 : decide (t1152 < 0) = false := decide_eq_false c12
    clear c12
    obtain rfl := Option.some.inj H
    go_enter Try.func42, Try.ntmps42
    go_wp2_with (first | ((with_reducible refine gate_dst (N := 2) rfl ?_); refine box_event ?hg (N := 2) ?hd (cs := #[.slice A0_0 l0_0.length c0_0, .slice A0_1 l0_1.length c0_1, .slice A0_2 l0_2.length c0_2, .int .i64 a0_3, .int .i64 a0_4]) (t := 30) ?hr ?_; (case hd => rfl); (case hg => rfl); (case hr => first | (go_simp; done) | (go_simp; rfl)); intro gb1149 hg w15 hbox hb; have BK1149 := Aside0.mk (hbox); have GW1149 := Aside0.mk ((bz_ hg (lb0_ HB.out))); have GE1149 := Aside0.mk ((bz_ hg (lb0_ HB.out))); replace HB := Aside0.mk (below_step (lb0_ HB.out) hb); clear hb hbox hg; obtain ⟨hcz16_0, hcz16_1, hcz16_2, hcz16_3, hcz16_4⟩ := cz5_ BK1149.out; obtain ⟨hfz16_0, hfz16_1, hfz16_2, hfz16_3, hfz16_4⟩ := fz5_ BK1149.out) | ((with_reducible refine gate_callee (f := 92) rfl ?_); refine ga_ (some 8) Try.func92 #[.slice A0_0 l0_0.length c0_0, .int .i64 a1] ?_; (with_reducible refine (laws_heldLegS.calls k _ _ l0_0 a1 t1150 _ ?side1 ?side2 A3.out).mono ?_); (case side1 => exact kc_ (Kd.C_below HR0_0.out HB.out)); (case side2 => exact HC0_0.out); rintro e w' ⟨rfl, ⟨nd, rfl⟩⟩; refine ⟨_, rfl, ?_⟩) | ((with_reducible refine gate_callee (f := 93) rfl ?_); refine ga_ (some 14) Try.func93 #[.slice A0_1 l0_1.length c0_1, .int .i64 t1150] ?_; (with_reducible refine (laws_heldBoolS.calls k _ _ l0_1 t1150 t1151 _ ?side1 ?side2 A7.out).mono ?_); (case side1 => exact kc_ (Kd.C_below HR0_1.out (lb1_ HB.out GE1149.out))); (case side2 => exact HC0_1.out); rintro e w' ⟨rfl, ⟨nd, rfl⟩⟩; refine ⟨_, rfl, ?_⟩) | ((with_reducible refine gate_callee (f := 93) rfl ?_); refine ga_ (some 20) Try.func93 #[.slice A0_2 l0_2.length c0_2, .int .i64 t1151] ?_; (with_reducible refine (laws_heldBoolS.calls k _ _ l0_2 t1151 t1152 _ ?side1 ?side2 A11.out).mono ?_); (case side1 => exact kc_ (Kd.C_below HR0_2.out (lb1_ HB.out GE1149.out))); (case side2 => exact HC0_2.out); rintro e w' ⟨rfl, ⟨nd, rfl⟩⟩; refine ⟨_, rfl, ?_⟩))
    go_ret
    exact ⟨rr_, lb1_ HB.out GE1149.out⟩
end Go.Proofs.Ythmjimboajmhmaa.Pr

namespace Go.Proofs.Ythmjimboajmhmaa.Pr
open Go.RowKit Go.Proofs.YthmjimboajmhmaaW.PrintWords Go.Proofs.YthmjimboajmhmaaW.PrintLast Go.Proofs.YthmjimboajmhmaaW.PrintMore
set_option linter.unusedVariables false
set_option linter.unusedSimpArgs false
theorem kg_ {α : Type} {d : Kd α} {e base g t : Nat} {w w1 : World} {ok : Nat → Prop} {v : Value} {xs : List α} {cs : Array Value} (h : d.R e w base ok v xs) (B : w.heap[g]? = some (.cells cs t (0, 0))) (ht : ∀ q, q ∈ e :: d.E → q ≠ t := by decide) (hh : d.R e w base (fun k => ok k ∧ k ≠ g) v xs → d.R e w1 base (fun k => ok k ∧ k ≠ g) v xs := by intro h_; (repeat (with_reducible first | exact h_ | apply Kd.R_alloc | apply Kd.R_drewN | apply Kd.R_drew | refine Kd.R_far ?_ (fun _ hk => hk.2) _))) : d.R e w1 base ok v xs := Kd.R_mono (hh (Kd.R_types h B ht)) (fun _ h_ => h_.1)
end Go.Proofs.Ythmjimboajmhmaa.Pr

