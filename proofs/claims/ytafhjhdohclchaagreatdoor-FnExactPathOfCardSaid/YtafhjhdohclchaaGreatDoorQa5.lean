/- Contracts of functions, words and pure lemmas that a statement reaches (part 5); conditions: each theorem's own hypotheses. -/
import Derived.Lib.Join
import Derived.Test.YtafhjhdohclchaaGreatDoorQa4
set_option linter.unusedVariables false
set_option linter.unusedSimpArgs false
namespace Go.Proofs.YtafhjhdohclchaaGreatDoor.G
open Go.RowKit Go.Proofs.YtafhjhdohclchaaGreatDoorW.PrintWords Go.Proofs.YtafhjhdohclchaaGreatDoorW.PrintLast Go.Proofs.YtafhjhdohclchaaGreatDoorW.PrintMore
attribute [local go_sem] min2_int min_two
attribute [local go_sem high] str_leq
attribute [local go_sem] binOp_string_geq
def q17.f (k : Nat) (a0_0 : Int) (a0_1 : Int) (a0_2 : Int) (l0_3 : List Int) (l0_4 : List (S267)) (a1 : Int) : Option (Int) := (q19.f l0_3 a1).bind fun t621 => (if t621 < 0 then (some (-1)) else ((q15.f k l0_4 t621).bind fun t622 => (if t622 < 0 then (some (-1)) else (some t622))))
theorem q17.mono : ∀ a0 a1 a2 a3 a4 a5 k, LeO (q17.f k a0 a1 a2 a3 a4 a5) (q17.f (k + 1) a0 a1 a2 a3 a4 a5) := by
 intro a0 a1 a2 a3 a4 a5 k
 unfold q17.f
 repeat' first | (with_reducible exact q15.mono _ _ _) | (with_reducible exact LeO.refl _) | (with_reducible refine LeO.ite ?_ ?_) | (with_reducible refine LeO.bind ?_ (fun _ => ?_))
set_option maxHeartbeats 8000000 in
set_option maxRecDepth 100000 in
theorem q17.calls (k : Nat) (a0_0 : Int) (a0_1 : Int) (a0_2 : Int) (A0_3 : Option Addr) (c0_3 : Nat) (l0_3 : List Int) (A0_4 : Option Addr) (c0_4 : Nat) (l0_4 : List (S267)) (a1 : Int) (r : Int) (w : World) (hr0_3 : Kd.C (Kd.int .i64) w A0_3 l0_3.length l0_3) (hc0_3 : l0_3.length ≤ c0_3) (hr0_4 : Kd.C k267 w A0_4 l0_4.length l0_4) (hc0_4 : l0_4.length ≤ c0_4) (h : q17.f k a0_0 a0_1 a0_2 l0_3 l0_4 a1 = some r) :
  Calls Tryz.prog 123 #[.agg #[.int .i64 a0_0, .int .i64 a0_1, .int .i64 a0_2, .slice A0_3 l0_3.length c0_3, .slice A0_4 l0_4.length c0_4], .int .i64 a1] w fun e w' => e = .returned (.int .i64 r) ∧ Below w.heap.size w w' := by
 have hu159 := Tryz.underlying159
 have HR0_3 := Am hr0_3
 have HC0_3 := Am hc0_3
 clear hr0_3 hc0_3
 have HR0_4 := Am hr0_4
 have HC0_4 := Am hc0_4
 clear hr0_4 hc0_4
 have HB := Am (Below.refl w.heap.size w)
 have H : ((q19.f l0_3 a1).bind fun t621 => (if t621 < 0 then (some (-1)) else ((q15.f k l0_4 t621).bind fun t622 => (if t622 < 0 then (some (-1)) else (some t622))))) = some r := h
 clear h
 replace H := zbs H
 obtain ⟨t621, A3, H⟩ := H
 by_cases c4 : t621 < 0
 ·rw [if_pos c4] at H
  have c4b0 : decide (t621 < 0) = true := decide_eq_true c4
  clear c4
  obtain rfl := Option.some.inj H
  go_enter Tryz.func123, Tryz.ntmps123
  go_wp2_with (first | ((with_reducible refine gate_dst (N := 2) rfl ?_); refine box_event ?hg (N := 2) ?hd (cs := #[.int .i64 a0_0, .int .i64 a0_1, .int .i64 a0_2, .slice A0_3 l0_3.length c0_3, .slice A0_4 l0_4.length c0_4]) (t := 159) ?hr ?_; (case hd => rfl); (case hg => rfl); (case hr => (go_simp; done)); intro gb620 hg w5 hbox hb; have BK620 := Am hbox; have GW620 := Am ((nge hg HB.out)); have GE620 := Am ((nge hg HB.out)); replace HB := Am (below_step HB.out hb); clear hb hbox hg; obtain ⟨hcz6_0, hcz6_1, hcz6_2, hcz6_3, hcz6_4, hfz6_0, hfz6_1, hfz6_2, hfz6_3, hfz6_4⟩ := cb5 BK620.out) | ((with_reducible refine gate_callee (f := 192) rfl ?_); refine goesL_ (some 8) rfl rfl Tryz.func192 (by kernel_rfl) rfl #[.slice A0_3 l0_3.length c0_3, .int .i64 a1] rfl (by (try simp only [List.map_toArray, List.map_cons, List.map_nil]); rfl) ?_; (with_reducible refine (q19.calls _ _ l0_3 a1 t621 _ ?side1 ?side2 A3.out).mono ?_); (case side1 => repeat (exact (Kd.C_below HR0_3.out HB.out))); (case side2 => exact HC0_3.out); rintro e w' ⟨rfl, ⟨nd, rfl⟩⟩; refine ⟨_, rfl, ?_⟩))
  go_ret
  exact ⟨by rfl, by repeat ((with_reducible first | exact HB.out | apply pw_below_drewN))⟩
 ·rw [if_neg c4] at H
  have c4b0 : decide (t621 < 0) = false := decide_eq_false c4
  clear c4
  replace H := zbs H
  obtain ⟨t622, A7, H⟩ := H
  by_cases c8 : t622 < 0
  ·rw [if_pos c8] at H
   have c8b0 : decide (t622 < 0) = true := decide_eq_true c8
   clear c8
   obtain rfl := Option.some.inj H
   go_enter Tryz.func123, Tryz.ntmps123
   go_wp2_with (first | ((with_reducible refine gate_dst (N := 2) rfl ?_); refine box_event ?hg (N := 2) ?hd (cs := #[.int .i64 a0_0, .int .i64 a0_1, .int .i64 a0_2, .slice A0_3 l0_3.length c0_3, .slice A0_4 l0_4.length c0_4]) (t := 159) ?hr ?_; (case hd => rfl); (case hg => rfl); (case hr => (go_simp; done)); intro gb620 hg w9 hbox hb; have BK620 := Am hbox; have GW620 := Am ((nge hg HB.out)); have GE620 := Am ((nge hg HB.out)); replace HB := Am (below_step HB.out hb); clear hb hbox hg; obtain ⟨hcz10_0, hcz10_1, hcz10_2, hcz10_3, hcz10_4, hfz10_0, hfz10_1, hfz10_2, hfz10_3, hfz10_4⟩ := cb5 BK620.out) | ((with_reducible refine gate_callee (f := 192) rfl ?_); refine goesL_ (some 8) rfl rfl Tryz.func192 (by kernel_rfl) rfl #[.slice A0_3 l0_3.length c0_3, .int .i64 a1] rfl (by (try simp only [List.map_toArray, List.map_cons, List.map_nil]); rfl) ?_; (with_reducible refine (q19.calls _ _ l0_3 a1 t621 _ ?side1 ?side2 A3.out).mono ?_); (case side1 => repeat (exact (Kd.C_below HR0_3.out HB.out))); (case side2 => exact HC0_3.out); rintro e w' ⟨rfl, ⟨nd, rfl⟩⟩; refine ⟨_, rfl, ?_⟩) | ((with_reducible refine gate_callee (f := 193) rfl ?_); refine goesL_ (some 14) rfl rfl Tryz.func193 (by kernel_rfl) rfl #[.slice A0_4 l0_4.length c0_4, .int .i64 t621] rfl (by (try simp only [List.map_toArray, List.map_cons, List.map_nil]); rfl) ?_; (with_reducible refine (q15.calls k _ _ l0_4 t621 t622 _ ?side1 ?side2 A7.out).mono ?_); (case side1 => repeat (exact (Kd.C_below HR0_4.out (by repeat ((with_reducible first | exact HB.out | apply pw_below_drewN)))))); (case side2 => exact HC0_4.out); rintro e w11 ⟨rfl, hb⟩; refine ⟨_, rfl, ?_⟩; replace BK620 := Am (blk_below (by (with_reducible repeat (refine blk_drewN ?_ _)); exact BK620.out) hb); replace HB := Am (below_step (by repeat ((with_reducible first | exact HB.out | apply pw_below_drewN))) hb); (try clear hb)))
   go_ret
   exact ⟨by rfl, HB.out⟩
  ·rw [if_neg c8] at H
   have c8b0 : decide (t622 < 0) = false := decide_eq_false c8
   clear c8
   obtain rfl := Option.some.inj H
   go_enter Tryz.func123, Tryz.ntmps123
   go_wp2_with (first | ((with_reducible refine gate_dst (N := 2) rfl ?_); refine box_event ?hg (N := 2) ?hd (cs := #[.int .i64 a0_0, .int .i64 a0_1, .int .i64 a0_2, .slice A0_3 l0_3.length c0_3, .slice A0_4 l0_4.length c0_4]) (t := 159) ?hr ?_; (case hd => rfl); (case hg => rfl); (case hr => (go_simp; done)); intro gb620 hg w12 hbox hb; have BK620 := Am hbox; have GW620 := Am ((nge hg HB.out)); have GE620 := Am ((nge hg HB.out)); replace HB := Am (below_step HB.out hb); clear hb hbox hg; obtain ⟨hcz13_0, hcz13_1, hcz13_2, hcz13_3, hcz13_4, hfz13_0, hfz13_1, hfz13_2, hfz13_3, hfz13_4⟩ := cb5 BK620.out) | ((with_reducible refine gate_callee (f := 192) rfl ?_); refine goesL_ (some 8) rfl rfl Tryz.func192 (by kernel_rfl) rfl #[.slice A0_3 l0_3.length c0_3, .int .i64 a1] rfl (by (try simp only [List.map_toArray, List.map_cons, List.map_nil]); rfl) ?_; (with_reducible refine (q19.calls _ _ l0_3 a1 t621 _ ?side1 ?side2 A3.out).mono ?_); (case side1 => repeat (exact (Kd.C_below HR0_3.out HB.out))); (case side2 => exact HC0_3.out); rintro e w' ⟨rfl, ⟨nd, rfl⟩⟩; refine ⟨_, rfl, ?_⟩) | ((with_reducible refine gate_callee (f := 193) rfl ?_); refine goesL_ (some 14) rfl rfl Tryz.func193 (by kernel_rfl) rfl #[.slice A0_4 l0_4.length c0_4, .int .i64 t621] rfl (by (try simp only [List.map_toArray, List.map_cons, List.map_nil]); rfl) ?_; (with_reducible refine (q15.calls k _ _ l0_4 t621 t622 _ ?side1 ?side2 A7.out).mono ?_); (case side1 => repeat (exact (Kd.C_below HR0_4.out (by repeat ((with_reducible first | exact HB.out | apply pw_below_drewN)))))); (case side2 => exact HC0_4.out); rintro e w14 ⟨rfl, hb⟩; refine ⟨_, rfl, ?_⟩; replace BK620 := Am (blk_below (by (with_reducible repeat (refine blk_drewN ?_ _)); exact BK620.out) hb); replace HB := Am (below_step (by repeat ((with_reducible first | exact HB.out | apply pw_below_drewN))) hb); (try clear hb)))
   go_ret
   exact ⟨by rfl, HB.out⟩
def q18.l0 : Nat → List (S159) → Int → Int → Option (Int)
 | 0, _, _, _ => none
 | k + 1, x0, x1, x5 => if x5 < (x0.length : Int) then (if 0 ≤ x5 then ((q17.f k ((rd_T159 x0 x5).f0) ((rd_T159 x0 x5).f1) ((rd_T159 x0 x5).f2) ((rd_T159 x0 x5).f3) ((rd_T159 x0 x5).f4) x1).bind fun t624 => (if t624 < 0 then (some (-1)) else (q18.l0 k x0 t624 (wrap64 (x5 + 1))))) else (none)) else (some x1)
def q18.f (k : Nat) (l0 : List (S159)) (a1 : Int) : Option (Int) := if (wrap64 (a1 - (l0.length : Int))) < 0 then (some (-1)) else (q18.l0 k l0 (wrap64 (a1 - (l0.length : Int))) 0)
theorem q18.mono_l : ∀ k, (∀ y0 y1 y2, LeO (q18.l0 k y0 y1 y2) (q18.l0 (k + 1) y0 y1 y2))
 | 0 => fun _ _ _ r h => by simp [q18.l0] at h
 | k + 1 => by
  have ih0 := q18.mono_l k
  ·intro y0 y1 y2
   unfold q18.l0
   repeat' first | (with_reducible exact ih0 _ _ _) | (with_reducible exact q17.mono _ _ _ _ _ _ _) | (with_reducible exact LeO.refl _) | (with_reducible refine LeO.ite ?_ ?_) | (with_reducible refine LeO.bind ?_ (fun _ => ?_))
theorem q18.mono : ∀ a0 a1 k, LeO (q18.f k a0 a1) (q18.f (k + 1) a0 a1) := by
 intro a0 a1 k
 have ih0 := q18.mono_l k
 unfold q18.f
 repeat' first | (with_reducible exact ih0 _ _ _) | (with_reducible exact LeO.refl _) | (with_reducible refine LeO.ite ?_ ?_)
set_option maxHeartbeats 8000000 in
set_option maxRecDepth 100000 in
theorem q18.calls (k : Nat) (A0 : Option Addr) (c0 : Nat) (l0 : List (S159)) (a1 : Int) (r : Int) (w : World) (hr0 : Kd.C k159 w A0 l0.length l0) (hc0 : l0.length ≤ c0) (h : q18.f k l0 a1 = some r) :
  Calls Tryz.prog 55 #[.slice A0 l0.length c0, .int .i64 a1] w fun e w' => e = .returned (.int .i64 r) ∧ Below w.heap.size w w' := by
 have hu159 := Tryz.underlying159
 have HR0 := Am hr0
 have HC0 := Am hc0
 clear hr0 hc0
 have HB := Am (Below.refl w.heap.size w)
 have H : (if (wrap64 (a1 - (l0.length : Int))) < 0 then (some (-1)) else (q18.l0 k l0 (wrap64 (a1 - (l0.length : Int))) 0)) = some r := h
 clear h
 by_cases c3 : (wrap64 (a1 - (l0.length : Int))) < 0
 ·rw [if_pos c3] at H
  have c3b0 : decide ((wrap64 (a1 - (l0.length : Int))) < 0) = true := decide_eq_true c3
  clear c3
  obtain rfl := Option.some.inj H
  go_enter Tryz.func55, Tryz.ntmps55
  go_wp2
  go_ret
  exact ⟨by rfl, HB.out⟩
 ·rw [if_neg c3] at H
  have c3b0 : decide ((wrap64 (a1 - (l0.length : Int))) < 0) = false := decide_eq_false c3
  clear c3
  have H' := Am H
  clear H
  go_enter Tryz.func55, Tryz.ntmps55
  go_wp2
  go_loopg [1, 5] k (fun kq v1 v5 w' => ∃ (x1_1 : Int) (x5_1 : Int), v1 = .int .i64 x1_1 ∧ v5 = .int .i64 x5_1 ∧ Aside0 (q18.l0 kq l0 x1_1 x5_1 = some r) ∧ Aside0 (kq ≤ k) ∧ Aside0 (Below w.heap.size w w'))
  case atStart => exact ⟨(wrap64 (a1 - (l0.length : Int))), (0), (by rfl), (by rfl), H', ⟨Nat.le_refl _⟩, ⟨HB.out⟩⟩
  case round =>
   clear H'
   try clear c3b0
   obtain ⟨x1_1, x5_1, rfl, rfl, HA, HK1, HB⟩ := hrel
   cases gk with
   | zero => exact absurd HA.out (by simp [q18.l0])
   | succ k1 =>
    have H := HA.out
    clear HA
    simp only [q18.l0] at H
    by_cases c4 : x5_1 < (l0.length : Int)
    ·rw [if_pos c4] at H
     have c4b0 : decide (x5_1 < (l0.length : Int)) = true := decide_eq_true c4
     clear c4
     replace H := ino H
     obtain ⟨c5, H⟩ := H
     have c5b0 : decide (0 ≤ x5_1) = true := decide_eq_true c5
     clear c5
     replace H := zbs H
     obtain ⟨t624, A6, H⟩ := H
     by_cases c7 : t624 < 0
     ·rw [if_pos c7] at H
      have c7b0 : decide (t624 < 0) = true := decide_eq_true c7
      clear c7
      obtain rfl := Option.some.inj H
      have p623 : 0 ≤ (x5_1 : Int) := od (by assumption)
      have q623 : x5_1 < (l0.length : Int) := od (by assumption)
      obtain ⟨ad623, A623_3, c623_3, A623_4, c623_4, e623, hx623_0, hx623_1, hx623_2, hx623_3, hx623_4, hl623_3, hi623_3, hl623_4, hi623_4⟩ := at_T159 HR0.out x5_1 p623 q623
      cases e623
      replace hx623_0 := pcb HB.out hx623_0
      replace hx623_1 := pcb HB.out hx623_1
      replace hx623_2 := pcb HB.out hx623_2
      replace hx623_3 := pcb HB.out hx623_3
      replace hx623_4 := pcb HB.out hx623_4
      have HR623_3 := Am hi623_3
      have HC623_3 := Am hl623_3
      clear hi623_3 hl623_3
      have HR623_4 := Am hi623_4
      have HC623_4 := Am hl623_4
      clear hi623_4 hl623_4
      replace p623 := eq_true p623
      replace q623 := eq_true q623
      go_wp2_with (((with_reducible refine gate_callee (f := 123) rfl ?_); refine goesL_ (some 23) rfl rfl Tryz.func123 (by kernel_rfl) rfl #[.agg #[.int .i64 ((rd_T159 l0 x5_1).f0), .int .i64 ((rd_T159 l0 x5_1).f1), .int .i64 ((rd_T159 l0 x5_1).f2), .slice A623_3 ((rd_T159 l0 x5_1).f3).length c623_3, .slice A623_4 ((rd_T159 l0 x5_1).f4).length c623_4], .int .i64 x1_1] rfl (by (try simp only [List.map_toArray, List.map_cons, List.map_nil]); rfl) ?_; (with_reducible refine (q17.calls k1 ((rd_T159 l0 x5_1).f0) ((rd_T159 l0 x5_1).f1) ((rd_T159 l0 x5_1).f2) _ _ ((rd_T159 l0 x5_1).f3) _ _ ((rd_T159 l0 x5_1).f4) x1_1 t624 _ ?side1 ?side2 ?side3 ?side4 A6.out).mono ?_); (case side1 => repeat (exact (Kd.C_below HR623_3.out HB.out))); (case side2 => exact HC623_3.out); (case side3 => repeat (exact (Kd.C_below HR623_4.out HB.out))); (case side4 => exact HC623_4.out); rintro e w8 ⟨rfl, hb⟩; refine ⟨_, rfl, ?_⟩; replace HB := Am (below_step HB.out hb); (try clear hb)))
      go_ret
      exact ⟨by rfl, HB.out⟩
     ·rw [if_neg c7] at H
      have c7b0 : decide (t624 < 0) = false := decide_eq_false c7
      clear c7
      have H' := Am H
      clear H
      have p623 : 0 ≤ (x5_1 : Int) := od (by assumption)
      have q623 : x5_1 < (l0.length : Int) := od (by assumption)
      obtain ⟨ad623, A623_3, c623_3, A623_4, c623_4, e623, hx623_0, hx623_1, hx623_2, hx623_3, hx623_4, hl623_3, hi623_3, hl623_4, hi623_4⟩ := at_T159 HR0.out x5_1 p623 q623
      cases e623
      replace hx623_0 := pcb HB.out hx623_0
      replace hx623_1 := pcb HB.out hx623_1
      replace hx623_2 := pcb HB.out hx623_2
      replace hx623_3 := pcb HB.out hx623_3
      replace hx623_4 := pcb HB.out hx623_4
      have HR623_3 := Am hi623_3
      have HC623_3 := Am hl623_3
      clear hi623_3 hl623_3
      have HR623_4 := Am hi623_4
      have HC623_4 := Am hl623_4
      clear hi623_4 hl623_4
      replace p623 := eq_true p623
      replace q623 := eq_true q623
      go_wp2_with (((with_reducible refine gate_callee (f := 123) rfl ?_); refine goesL_ (some 23) rfl rfl Tryz.func123 (by kernel_rfl) rfl #[.agg #[.int .i64 ((rd_T159 l0 x5_1).f0), .int .i64 ((rd_T159 l0 x5_1).f1), .int .i64 ((rd_T159 l0 x5_1).f2), .slice A623_3 ((rd_T159 l0 x5_1).f3).length c623_3, .slice A623_4 ((rd_T159 l0 x5_1).f4).length c623_4], .int .i64 x1_1] rfl (by (try simp only [List.map_toArray, List.map_cons, List.map_nil]); rfl) ?_; (with_reducible refine (q17.calls k1 ((rd_T159 l0 x5_1).f0) ((rd_T159 l0 x5_1).f1) ((rd_T159 l0 x5_1).f2) _ _ ((rd_T159 l0 x5_1).f3) _ _ ((rd_T159 l0 x5_1).f4) x1_1 t624 _ ?side1 ?side2 ?side3 ?side4 A6.out).mono ?_); (case side1 => repeat (exact (Kd.C_below HR623_3.out HB.out))); (case side2 => exact HC623_3.out); (case side3 => repeat (exact (Kd.C_below HR623_4.out HB.out))); (case side4 => exact HC623_4.out); rintro e w9 ⟨rfl, hb⟩; refine ⟨_, rfl, ?_⟩; replace HB := Am (below_step HB.out hb); (try clear hb)))
      go_roundg k1
      case measure => have := HK1.out; omega
      case rel => exact ⟨(t624), (wrap64 (x5_1 + 1)), (by rfl), (by rfl), H', ⟨by have := HK1.out; omega⟩, ⟨HB.out⟩⟩
    ·rw [if_neg c4] at H
     have c4b0 : decide (x5_1 < (l0.length : Int)) = false := decide_eq_false c4
     clear c4
     obtain rfl := Option.some.inj H
     go_wp2
     go_ret
     exact ⟨by rfl, HB.out⟩
def q16.f (k : Nat) (l0_0 : List (S159)) (l0_1 : List (List Int)) (a1 : Int) : Option (Int) := (q18.f k l0_0 a1).bind fun t628 => (if t628 < 0 then (some (-1)) else ((q13.f k l0_1 t628).bind fun t629 => (if t629 < 0 then (some (-1)) else (some t629))))
theorem q16.mono : ∀ a0 a1 a2 k, LeO (q16.f k a0 a1 a2) (q16.f (k + 1) a0 a1 a2) := by
 intro a0 a1 a2 k
 unfold q16.f
 repeat' first | (with_reducible exact q13.mono _ _ _) | (with_reducible exact q18.mono _ _ _) | (with_reducible exact LeO.refl _) | (with_reducible refine LeO.ite ?_ ?_) | (with_reducible refine LeO.bind ?_ (fun _ => ?_))
set_option maxHeartbeats 8000000 in
set_option maxRecDepth 100000 in
theorem q16.calls (k : Nat) (A0_0 : Option Addr) (c0_0 : Nat) (l0_0 : List (S159)) (A0_1 : Option Addr) (c0_1 : Nat) (l0_1 : List (List Int)) (a1 : Int) (r : Int) (w : World) (hr0_0 : Kd.C k159 w A0_0 l0_0.length l0_0) (hc0_0 : l0_0.length ≤ c0_0) (hr0_1 : Kd.C (Kd.slice 5 (Kd.int .u8)) w A0_1 l0_1.length l0_1) (hc0_1 : l0_1.length ≤ c0_1) (h : q16.f k l0_0 l0_1 a1 = some r) :
  Calls Tryz.prog 17 #[.agg #[.slice A0_0 l0_0.length c0_0, .slice A0_1 l0_1.length c0_1], .int .i64 a1] w fun e w' => e = .returned (.int .i64 r) ∧ Below w.heap.size w w' := by
 have hu45 := Tryz.underlying45
 have HR0_0 := Am hr0_0
 have HC0_0 := Am hc0_0
 clear hr0_0 hc0_0
 have HR0_1 := Am hr0_1
 have HC0_1 := Am hc0_1
 clear hr0_1 hc0_1
 have HB := Am (Below.refl w.heap.size w)
 have H : ((q18.f k l0_0 a1).bind fun t628 => (if t628 < 0 then (some (-1)) else ((q13.f k l0_1 t628).bind fun t629 => (if t629 < 0 then (some (-1)) else (some t629))))) = some r := h
 clear h
 replace H := zbs H
 obtain ⟨t628, A3, H⟩ := H
 by_cases c4 : t628 < 0
 ·rw [if_pos c4] at H
  have c4b0 : decide (t628 < 0) = true := decide_eq_true c4
  clear c4
  obtain rfl := Option.some.inj H
  go_enter Tryz.func17, Tryz.ntmps17
  go_wp2_with (first | ((with_reducible refine gate_dst (N := 2) rfl ?_); refine box_event ?hg (N := 2) ?hd (cs := #[.slice A0_0 l0_0.length c0_0, .slice A0_1 l0_1.length c0_1]) (t := 45) ?hr ?_; (case hd => rfl); (case hg => rfl); (case hr => (go_simp; done)); intro gb627 hg w5 hbox hb; have BK627 := Am hbox; have GW627 := Am ((nge hg HB.out)); have GE627 := Am ((nge hg HB.out)); replace HB := Am (below_step HB.out hb); clear hb hbox hg; obtain ⟨hcz6_0, hcz6_1, hfz6_0, hfz6_1⟩ := cb2 BK627.out) | ((with_reducible refine gate_callee (f := 55) rfl ?_); refine goesL_ (some 8) rfl rfl Tryz.func55 (by kernel_rfl) rfl #[.slice A0_0 l0_0.length c0_0, .int .i64 a1] rfl (by (try simp only [List.map_toArray, List.map_cons, List.map_nil]); rfl) ?_; (with_reducible refine (q18.calls k _ _ l0_0 a1 t628 _ ?side1 ?side2 A3.out).mono ?_); (case side1 => repeat (exact (Kd.C_below HR0_0.out HB.out))); (case side2 => exact HC0_0.out); rintro e w7 ⟨rfl, hb⟩; refine ⟨_, rfl, ?_⟩; replace BK627 := Am (blk_below BK627.out hb); replace HB := Am (below_step HB.out hb); (try clear hb)))
  go_ret
  exact ⟨by rfl, HB.out⟩
 ·rw [if_neg c4] at H
  have c4b0 : decide (t628 < 0) = false := decide_eq_false c4
  clear c4
  replace H := zbs H
  obtain ⟨t629, A8, H⟩ := H
  by_cases c9 : t629 < 0
  ·rw [if_pos c9] at H
   have c9b0 : decide (t629 < 0) = true := decide_eq_true c9
   clear c9
   obtain rfl := Option.some.inj H
   go_enter Tryz.func17, Tryz.ntmps17
   go_wp2_with (first | ((with_reducible refine gate_dst (N := 2) rfl ?_); refine box_event ?hg (N := 2) ?hd (cs := #[.slice A0_0 l0_0.length c0_0, .slice A0_1 l0_1.length c0_1]) (t := 45) ?hr ?_; (case hd => rfl); (case hg => rfl); (case hr => (go_simp; done)); intro gb627 hg w10 hbox hb; have BK627 := Am hbox; have GW627 := Am ((nge hg HB.out)); have GE627 := Am ((nge hg HB.out)); replace HB := Am (below_step HB.out hb); clear hb hbox hg; obtain ⟨hcz11_0, hcz11_1, hfz11_0, hfz11_1⟩ := cb2 BK627.out) | ((with_reducible refine gate_callee (f := 55) rfl ?_); refine goesL_ (some 8) rfl rfl Tryz.func55 (by kernel_rfl) rfl #[.slice A0_0 l0_0.length c0_0, .int .i64 a1] rfl (by (try simp only [List.map_toArray, List.map_cons, List.map_nil]); rfl) ?_; (with_reducible refine (q18.calls k _ _ l0_0 a1 t628 _ ?side1 ?side2 A3.out).mono ?_); (case side1 => repeat (exact (Kd.C_below HR0_0.out HB.out))); (case side2 => exact HC0_0.out); rintro e w12 ⟨rfl, hb⟩; refine ⟨_, rfl, ?_⟩; replace BK627 := Am (blk_below BK627.out hb); replace HB := Am (below_step HB.out hb); (try clear hb); obtain ⟨hcz13_0, hcz13_1, hfz13_0, hfz13_1⟩ := cb2 BK627.out) | ((with_reducible refine gate_callee (f := 56) rfl ?_); refine goesL_ (some 14) rfl rfl Tryz.func56 (by kernel_rfl) rfl #[.slice A0_1 l0_1.length c0_1, .int .i64 t628] rfl (by (try simp only [List.map_toArray, List.map_cons, List.map_nil]); rfl) ?_; (with_reducible refine (q13.calls k _ _ l0_1 t628 t629 _ ?side1 ?side2 A8.out).mono ?_); (case side1 => repeat (exact (Kd.C_below HR0_1.out HB.out))); (case side2 => exact HC0_1.out); rintro e w' ⟨rfl, ⟨nd, rfl⟩⟩; refine ⟨_, rfl, ?_⟩))
   go_ret
   exact ⟨by rfl, by repeat ((with_reducible first | exact HB.out | apply pw_below_drewN))⟩
  ·rw [if_neg c9] at H
   have c9b0 : decide (t629 < 0) = false := decide_eq_false c9
   clear c9
   obtain rfl := Option.some.inj H
   go_enter Tryz.func17, Tryz.ntmps17
   go_wp2_with (first | ((with_reducible refine gate_dst (N := 2) rfl ?_); refine box_event ?hg (N := 2) ?hd (cs := #[.slice A0_0 l0_0.length c0_0, .slice A0_1 l0_1.length c0_1]) (t := 45) ?hr ?_; (case hd => rfl); (case hg => rfl); (case hr => (go_simp; done)); intro gb627 hg w14 hbox hb; have BK627 := Am hbox; have GW627 := Am ((nge hg HB.out)); have GE627 := Am ((nge hg HB.out)); replace HB := Am (below_step HB.out hb); clear hb hbox hg; obtain ⟨hcz15_0, hcz15_1, hfz15_0, hfz15_1⟩ := cb2 BK627.out) | ((with_reducible refine gate_callee (f := 55) rfl ?_); refine goesL_ (some 8) rfl rfl Tryz.func55 (by kernel_rfl) rfl #[.slice A0_0 l0_0.length c0_0, .int .i64 a1] rfl (by (try simp only [List.map_toArray, List.map_cons, List.map_nil]); rfl) ?_; (with_reducible refine (q18.calls k _ _ l0_0 a1 t628 _ ?side1 ?side2 A3.out).mono ?_); (case side1 => repeat (exact (Kd.C_below HR0_0.out HB.out))); (case side2 => exact HC0_0.out); rintro e w16 ⟨rfl, hb⟩; refine ⟨_, rfl, ?_⟩; replace BK627 := Am (blk_below BK627.out hb); replace HB := Am (below_step HB.out hb); (try clear hb); obtain ⟨hcz17_0, hcz17_1, hfz17_0, hfz17_1⟩ := cb2 BK627.out) | ((with_reducible refine gate_callee (f := 56) rfl ?_); refine goesL_ (some 14) rfl rfl Tryz.func56 (by kernel_rfl) rfl #[.slice A0_1 l0_1.length c0_1, .int .i64 t628] rfl (by (try simp only [List.map_toArray, List.map_cons, List.map_nil]); rfl) ?_; (with_reducible refine (q13.calls k _ _ l0_1 t628 t629 _ ?side1 ?side2 A8.out).mono ?_); (case side1 => repeat (exact (Kd.C_below HR0_1.out HB.out))); (case side2 => exact HC0_1.out); rintro e w' ⟨rfl, ⟨nd, rfl⟩⟩; refine ⟨_, rfl, ?_⟩))
   go_ret
   exact ⟨by rfl, by repeat ((with_reducible first | exact HB.out | apply pw_below_drewN))⟩
def q1a.l0 : Nat → List Int → List Int → Int → Option (List Int)
 | 0, _, _, _ => none
 | k + 1, x0, x3, x4 => if x4 < (x0.length : Int) then (if 0 ≤ x4 then (if x4 < (x3.length : Int) then (q1a.l0 k x0 (x3.set (x4 : Int).toNat (rd x0 x4)) (wrap64 (x4 + 1))) else (none)) else (none)) else (some x3)
def q1a.f (k : Nat) (l0 : List Int) : Option (List Int) := if 0 ≤ (l0.length : Int) then (if ((l0.length : Int) : Int).toNat ≤ 281474976710656 then (q1a.l0 k l0 (List.replicate ((l0.length : Int) : Int).toNat 0) 0) else (none)) else (none)
theorem q1a.mono_l : ∀ k, (∀ y0 y1 y2, LeO (q1a.l0 k y0 y1 y2) (q1a.l0 (k + 1) y0 y1 y2))
 | 0 => fun _ _ _ r h => by simp [q1a.l0] at h
 | k + 1 => by
  have ih0 := q1a.mono_l k
  ·intro y0 y1 y2
   unfold q1a.l0
   repeat' first | (with_reducible exact ih0 _ _ _) | (with_reducible exact LeO.refl _) | (with_reducible refine LeO.ite ?_ ?_)
theorem q1a.mono : ∀ a0 k, LeO (q1a.f k a0) (q1a.f (k + 1) a0) := by
 intro a0 k
 have ih0 := q1a.mono_l k
 unfold q1a.f
 repeat' first | (with_reducible exact ih0 _ _ _) | (with_reducible exact LeO.refl _) | (with_reducible refine LeO.ite ?_ ?_)
set_option maxHeartbeats 8000000 in
set_option maxRecDepth 100000 in
theorem q1a.calls (k : Nat) (A0 : Option Addr) (c0 : Nat) (l0 : List Int) (r : List Int) (w : World) (hr0 : Kd.C (Kd.int .u8) w A0 l0.length l0) (hc0 : l0.length ≤ c0) (h : q1a.f k l0 = some r) :
  Calls Tryz.prog 131 #[.slice A0 l0.length c0] w fun e w' => ∃ v0_ : Value, e = .returned (v0_) ∧ Kd.R (Kd.int .u8) 5 w' w.heap.size (fun _ => True) v0_ r ∧ Below w.heap.size w w' := by
 have HR0 := Am hr0
 have HC0 := Am hc0
 clear hr0 hc0
 have HB := Am (Below.refl w.heap.size w)
 have H : (if 0 ≤ (l0.length : Int) then (if ((l0.length : Int) : Int).toNat ≤ 281474976710656 then (q1a.l0 k l0 (List.replicate ((l0.length : Int) : Int).toNat 0) 0) else (none)) else (none)) = some r := h
 clear h
 replace H := ino H
 obtain ⟨c2, H⟩ := H
 have c2b0 := eq_true c2
 have c2b1 : decide (0 ≤ (l0.length : Int)) = true := decide_eq_true c2
 clear c2
 replace H := ino H
 obtain ⟨c3, H⟩ := H
 have c3b0 := eq_true c3
 have c3b1 : decide (((l0.length : Int) : Int).toNat ≤ 281474976710656) = true := decide_eq_true c3
 clear c3
 obtain ⟨y797, hy797⟩ : ∃ y_ : List Int, y_ = (List.replicate ((l0.length : Int) : Int).toNat 0) := ⟨_, rfl⟩
 replace H : (q1a.l0 k l0 y797 0) = some r := by (rw [hy797]; with_reducible exact H)
 have Ny797 := Am hy797
 clear hy797
 have H' := Am H
 clear H
 go_enter Tryz.func131, Tryz.ntmps131
 go_wp2_with (((with_reducible refine gate_dst (N := 7) rfl ?_); refine Kd.R_make (Kd.int .u8) _ 5 rfl (N := 7) rfl 22 _ _ rfl (l0.length : Int) rfl rfl Tryz.underlying22 (.int .u8 0) 1 info5 rfl (by decide) (by omega) 0 (ok := fun _ => True) (okp := fun _ => True) rfl (fun _ hk => hk) trivial (od (by assumption)) (Nat.le_trans (Nat.mul_le_mul_right _ (od (by assumption) : (l0.length : Int).toNat ≤ 281474976710656)) (by omega)) (Below.refl _ _) (Nat.le_refl _) ?_; intro v798 w4 ho5 hb hg_ hnew_; clear hg_ hnew_; (rw [← Ny797.out] at ho5); have HO799 := Am (Kd.R_lower ho5 (below_size HB.out)); replace HB := Am (below_step HB.out hb); clear hb ho5))
 go_loopg [4] k (fun kq v4 w' => ∃ (x3_1 : List Int) (x4_1 : Int), v4 = .int .i64 x4_1 ∧ Aside0 (q1a.l0 kq l0 x3_1 x4_1 = some r) ∧ Aside0 (kq ≤ k) ∧ Aside0 (Kd.R (Kd.int .u8) 5 w' w.heap.size (fun _ => True) v798 x3_1) ∧ Aside0 (Below w.heap.size w w'))
 case atStart => exact ⟨(y797), (0), (by rfl), H', ⟨Nat.le_refl _⟩, ⟨by exact HO799.out⟩, ⟨HB.out⟩⟩
 case round =>
  clear H'
  try clear c2b0
  try clear c2b1
  try clear c3b0
  try clear c3b1
  obtain ⟨x3_1, x4_1, rfl, HA, HK1, HO_3, HB⟩ := hrel
  cases gk with
  | zero => exact absurd HA.out (by simp [q1a.l0])
  | succ k1 =>
   have H := HA.out
   clear HA
   simp only [q1a.l0] at H
   by_cases c6 : x4_1 < (l0.length : Int)
   ·rw [if_pos c6] at H
    have c6b0 : decide (x4_1 < (l0.length : Int)) = true := decide_eq_true c6
    clear c6
    replace H := ino H
    obtain ⟨c7, H⟩ := H
    have c7b0 : decide (0 ≤ x4_1) = true := decide_eq_true c7
    clear c7
    replace H := ino H
    obtain ⟨c8, H⟩ := H
    have c8b0 : decide (x4_1 < (x3_1.length : Int)) = true := decide_eq_true c8
    clear c8
    obtain ⟨y801, hy801⟩ : ∃ y_ : List Int, y_ = (x3_1.set (x4_1 : Int).toNat (rd l0 x4_1)) := ⟨_, rfl⟩
    replace H : (q1a.l0 k1 l0 y801 (wrap64 (x4_1 + 1))) = some r := by (rw [hy801]; with_reducible exact H)
    have Ny801 := Am hy801
    clear hy801
    have H' := Am H
    clear H
    have p800 : 0 ≤ (x4_1 : Int) := od (by assumption)
    have q800 : x4_1 < (l0.length : Int) := od (by assumption)
    obtain ⟨ad800, e800, hx800_0⟩ := Kd.at_int HR0.out x4_1 p800 q800
    cases e800
    replace hx800_0 := pcb HB.out hx800_0
    replace p800 := eq_true p800
    replace q800 := eq_true q800
    have p9 : 0 ≤ (x4_1 : Int) := od (by assumption)
    have q9 : (x4_1 : Int) < ((x3_1.length : Int) : Int) := od (by assumption)
    obtain ⟨go9, co9, eo9, gb9, gl9, cl9, HG9⟩ := Kd.R_form HO_3.out (by omega)
    (cases eo9)
    have GB9 := Am gb9
    have GG9 := Am HG9
    clear gb9 gl9 HG9
    obtain ⟨hx9_0, hf9_0⟩ := Kd.R_celln 0 HO_3.out (x4_1 : Int) p9 q9
    replace p9 := eq_true p9
    replace q9 := eq_true q9
    have HP10 := Kd.R_putg HO_3.out (x4_1 : Int) (rd l0 x4_1)
    go_wp2_with (((with_reducible refine gate_store (t := 5) (p := 20) rfl ?_); refine store_event (t := 5) (p := 20) (v := ?vo_w11) (w1 := (wr.setCell ⟨go9, (x4_1 : Int).toNat, none⟩ (.int .u8 (rd l0 x4_1)))) ?hg ?ho ?hn ?hr ?_; (case ho => rfl); (case hg => rfl); (case hn => rfl); (case hr => (go_simp; done)); intro w11 hw; have hg : wr.grownBy w11 (some go9) := (by rw [hw]; exact HP10.2); have hp_ : Kd.R (Kd.int .u8) 5 w11 w.heap.size (fun _ => True) (.slice (some ⟨go9, 0, none⟩) x3_1.length co9) y801 := (by rw [hw, Ny801.out]; exact HP10.1); clear HP10; replace HO_3 := Am hp_; replace HB := Am ((by rw [hw]; exact below_set (HB.out) GB9.out : Below w.heap.size w w11)); clear hg hw hp_))
    go_roundg k1
    case measure => have := HK1.out; omega
    case rel => exact ⟨(y801), (wrap64 (x4_1 + 1)), (by rfl), H', ⟨by have := HK1.out; omega⟩, ⟨by exact HO_3.out⟩, ⟨HB.out⟩⟩
   ·rw [if_neg c6] at H
    have c6b0 : decide (x4_1 < (l0.length : Int)) = false := decide_eq_false c6
    clear c6
    obtain rfl := Option.some.inj H
    go_wp2
    go_ret
    exact ⟨_, by rfl, by exact HO_3.out, HB.out⟩
def q1b.l0 : Nat → List (List Int) → List (List Int) → Int → Option ((List (List Int)))
 | 0, _, _, _ => none
 | k + 1, x0, x3, x4 => if x4 < (x0.length : Int) then (if 0 ≤ x4 then ((q1a.f k (rd_L1 x0 x4)).bind fun t806 => (if x4 < (x3.length : Int) then (q1b.l0 k x0 (x3.set (x4 : Int).toNat t806) (wrap64 (x4 + 1))) else (none))) else (none)) else (some x3)
def q1b.f (k : Nat) (l0 : List (List Int)) : Option ((List (List Int))) := if 0 ≤ (l0.length : Int) then (if ((l0.length : Int) : Int).toNat ≤ 11728124029610 then (q1b.l0 k l0 (List.replicate ((l0.length : Int) : Int).toNat []) 0) else (none)) else (none)
theorem q1b.mono_l : ∀ k, (∀ y0 y1 y2, LeO (q1b.l0 k y0 y1 y2) (q1b.l0 (k + 1) y0 y1 y2))
 | 0 => fun _ _ _ r h => by simp [q1b.l0] at h
 | k + 1 => by
  have ih0 := q1b.mono_l k
  ·intro y0 y1 y2
   unfold q1b.l0
   repeat' first | (with_reducible exact ih0 _ _ _) | (with_reducible exact q1a.mono _ _) | (with_reducible exact LeO.refl _) | (with_reducible refine LeO.ite ?_ ?_) | (with_reducible refine LeO.bind ?_ (fun _ => ?_))
theorem q1b.mono : ∀ a0 k, LeO (q1b.f k a0) (q1b.f (k + 1) a0) := by
 intro a0 k
 have ih0 := q1b.mono_l k
 unfold q1b.f
 repeat' first | (with_reducible exact ih0 _ _ _) | (with_reducible exact LeO.refl _) | (with_reducible refine LeO.ite ?_ ?_)
set_option maxHeartbeats 8000000 in
set_option maxRecDepth 100000 in
theorem q1b.calls (k : Nat) (A0 : Option Addr) (c0 : Nat) (l0 : List (List Int)) (r : List (List Int)) (w : World) (hr0 : Kd.C (Kd.slice 5 (Kd.int .u8)) w A0 l0.length l0) (hc0 : l0.length ≤ c0) (h : q1b.f k l0 = some r) :
  Calls Tryz.prog 63 #[.slice A0 l0.length c0] w fun e w' => ∃ v0_ : Value, e = .returned (v0_) ∧ Kd.S (Kd.slice 5 (Kd.int .u8)) 22 w' w.heap.size (fun _ => True) v0_ r ∧ Below w.heap.size w w' := by
 have HR0 := Am hr0
 have HC0 := Am hc0
 clear hr0 hc0
 have HB := Am (Below.refl w.heap.size w)
 have H : (if 0 ≤ (l0.length : Int) then (if ((l0.length : Int) : Int).toNat ≤ 11728124029610 then (q1b.l0 k l0 (List.replicate ((l0.length : Int) : Int).toNat []) 0) else (none)) else (none)) = some r := h
 clear h
 replace H := ino H
 obtain ⟨c2, H⟩ := H
 have c2b0 := eq_true c2
 have c2b1 : decide (0 ≤ (l0.length : Int)) = true := decide_eq_true c2
 clear c2
 replace H := ino H
 obtain ⟨c3, H⟩ := H
 have c3b0 := eq_true c3
 have c3b1 : decide (((l0.length : Int) : Int).toNat ≤ 11728124029610) = true := decide_eq_true c3
 clear c3
 obtain ⟨y802, hy802⟩ : ∃ y_ : List (List Int), y_ = (List.replicate ((l0.length : Int) : Int).toNat []) := ⟨_, rfl⟩
 replace H : (q1b.l0 k l0 y802 0) = some r := by (rw [hy802]; with_reducible exact H)
 have Ny802 := Am hy802
 clear hy802
 have H' := Am H
 clear H
 go_enter Tryz.func63, Tryz.ntmps63
 go_wp2_with (((with_reducible refine gate_dst (N := 7) rfl ?_); refine Kd.S_make (Kd.slice 5 (Kd.int .u8)) _ 22 rfl (N := 7) rfl 26 _ _ rfl (l0.length : Int) rfl rfl Tryz.underlying26 (.slice none 0 0) 24 info22 rfl (by decide) (by omega) [] (ok := fun _ => True) (okp := fun _ => True) ⟨_, rfl, Kd.R_nil _ _ _ _ _⟩ (fun _ hk => hk) trivial (od (by assumption)) (Nat.le_trans (Nat.mul_le_mul_right _ (od (by assumption) : (l0.length : Int).toNat ≤ 11728124029610)) (by omega)) (Below.refl _ _) (Nat.le_refl _) ?_; intro v803 w4 ho5 hb hg_ hnew_; clear hg_ hnew_; (rw [← Ny802.out] at ho5); have HO804 := Am (Kd.S_lower ho5 (below_size HB.out)); replace HB := Am (below_step HB.out hb); clear hb ho5))
 go_loopg [4] k (fun kq v4 w' => ∃ (x3_1 : List (List Int)) (x4_1 : Int), v4 = .int .i64 x4_1 ∧ Aside0 (q1b.l0 kq l0 x3_1 x4_1 = some r) ∧ Aside0 (kq ≤ k) ∧ Aside0 (Kd.S (Kd.slice 5 (Kd.int .u8)) 22 w' w.heap.size (fun _ => True) v803 x3_1) ∧ Aside0 (Below w.heap.size w w'))
 case atStart => exact ⟨(y802), (0), (by rfl), H', ⟨Nat.le_refl _⟩, ⟨by exact HO804.out⟩, ⟨HB.out⟩⟩
 case round =>
  clear H'
  try clear c2b0
  try clear c2b1
  try clear c3b0
  try clear c3b1
  obtain ⟨x3_1, x4_1, rfl, HA, HK1, HO_3, HB⟩ := hrel
  cases gk with
  | zero => exact absurd HA.out (by simp [q1b.l0])
  | succ k1 =>
   have H := HA.out
   clear HA
   simp only [q1b.l0] at H
   by_cases c6 : x4_1 < (l0.length : Int)
   ·rw [if_pos c6] at H
    have c6b0 : decide (x4_1 < (l0.length : Int)) = true := decide_eq_true c6
    clear c6
    replace H := ino H
    obtain ⟨c7, H⟩ := H
    have c7b0 : decide (0 ≤ x4_1) = true := decide_eq_true c7
    clear c7
    replace H := zbs H
    obtain ⟨t806, A8, H⟩ := H
    replace H := ino H
    obtain ⟨c9, H⟩ := H
    have c9b0 : decide (x4_1 < (x3_1.length : Int)) = true := decide_eq_true c9
    clear c9
    obtain ⟨y809, hy809⟩ : ∃ y_ : List (List Int), y_ = (x3_1.set (x4_1 : Int).toNat t806) := ⟨_, rfl⟩
    replace H : (q1b.l0 k1 l0 y809 (wrap64 (x4_1 + 1))) = some r := by (rw [hy809]; with_reducible exact H)
    have Ny809 := Am hy809
    clear hy809
    have H' := Am H
    clear H
    have p805 : 0 ≤ (x4_1 : Int) := od (by assumption)
    have q805 : x4_1 < (l0.length : Int) := od (by assumption)
    obtain ⟨ad805, A805_0, c805_0, e805, hx805_0, hl805_0, hi805_0⟩ := at_L1 HR0.out x4_1 p805 q805
    cases e805
    replace hx805_0 := pcb HB.out hx805_0
    have HR805_0 := Am hi805_0
    have HC805_0 := Am hl805_0
    clear hi805_0 hl805_0
    replace p805 := eq_true p805
    replace q805 := eq_true q805
    go_wp2_with (first | ((with_reducible refine gate_callee (f := 131) rfl ?_); refine goesL_ (some 20) rfl rfl Tryz.func131 (by kernel_rfl) rfl #[.slice A805_0 (rd_L1 l0 x4_1).length c805_0] rfl (by (try simp only [List.map_toArray, List.map_cons, List.map_nil]); rfl) ?_; (with_reducible refine (q1a.calls k1 _ _ (rd_L1 l0 x4_1) t806 _ ?side1 ?side2 A8.out).mono ?_); (case side1 => repeat (exact (Kd.C_below HR805_0.out HB.out))); (case side2 => exact HC805_0.out); rintro e w11 ⟨v807, rfl, ho0, hb⟩; refine ⟨_, rfl, ?_⟩; replace HO_3 := Am (Kd.S_elder' HO_3.out (Kd.R_base ho0) hb); have HO808 := Am (Kd.R_lower ho0 (below_size HB.out)); replace HB := Am (below_step HB.out hb); (try clear hb); (try clear ho0); have p10 : 0 ≤ (x4_1 : Int) := od (by assumption); have q10 : (x4_1 : Int) < ((x3_1.length : Int) : Int) := od (by assumption); obtain ⟨go10, co10, eo10, gb10, gl10, cl10, HG10⟩ := Kd.S_form HO_3.out (by omega); (cases eo10); have GB10 := Am gb10; have GG10 := Am HG10; clear gb10 gl10 HG10; obtain ⟨_, ce10, hcl10, hM10, hcc10, hfr10, _, _⟩ := Kd.S_elem HO_3.out [] (x4_1 : Int) p10 q10; obtain ⟨ve10_0, rfl, ge10_0⟩ := hM10; have hx10_0 := hcc10 0 _ rfl; have hf10_0 := hfr10 0; (try simp only [show ((Kd.slice 5 (Kd.int .u8))).sz = 1 from rfl, Nat.mul_one, Nat.add_zero] at hx10_0); (try simp only [show ((Kd.slice 5 (Kd.int .u8))).sz = 1 from rfl, Nat.mul_one, Nat.add_zero] at hf10_0); clear hcl10 hcc10 hfr10; replace p10 := eq_true p10; replace q10 := eq_true q10; have n_ := Am (Kd.S_mono (ok' := (fun k_ => some k_ ≠ (v807 : Value).ownBlock)) HO_3.out (fun k_ hk => hk.2)); clear HO_3; have HO_3 := n_; clear n_; have HX12 := Am (show Kd.S (Kd.slice 5 (Kd.int .u8)) 22 w11 w.heap.size (fun k_ => ((fun _ => True)) k_ ∧ ¬ ((fun k_ => some k_ = (v807 : Value).ownBlock)) k_) (.slice (some ⟨go10, 0, none⟩) x3_1.length co10) x3_1 from (by exact Kd.S_mono HO_3.out (fun k_ hk => ⟨trivial, fun e_ => hk e_⟩))); obtain ⟨oki12, ce12, hcl12, hM12, hcc12, hfr12, hoki12, hH12⟩ := Kd.S_elem HX12.out [] (x4_1 : Int) (od (by assumption)) (by have h_ : (x4_1 : Int) < ((x3_1.length : Int) : Int) := od (by assumption); exact h_); obtain ⟨ve12_0, rfl, ge12_0⟩ := hM12; have HP12 := Kd.S_seg hH12 (od (by assumption)) (by have h_ : (x4_1 : Int) < ((x3_1.length : Int) : Int) := od (by assumption); exact h_) (seg := [v807]) (j := 0) (show 1 ≤ 1 from by decide) (x' := t806) (Kd.M_row (Kd.R_mono (Kd.R_tight rfl (Kd.R_mono (ok' := fun k_ => ((fun _ => True)) k_ ∧ k_ ≠ go10) (Kd.R_apart' (HO808.out) (Kd.S_typed HO_3.out) (by decide)) (fun k_ hk => ⟨trivial, fun e_ => (hk.2) (by rw [e_]; rfl)⟩))) (fun _ h_ => Or.inr (h_)))) (fun _ hk => hk) (fun k_ hk_ => ((Kd.R_mono (ok' := fun k_ => ((fun _ => True)) k_ ∧ k_ ≠ go10) (Kd.R_apart' (HO808.out) (Kd.S_typed HO_3.out) (by decide)) (fun k_ hk => ⟨trivial, fun e_ => (hk.2) (by rw [e_]; rfl)⟩))).1 k_ hk_.symm); have hx12_0 := hcc12 0 _ rfl; (try simp only [show ((Kd.slice 5 (Kd.int .u8))).sz = 1 from rfl, Nat.mul_one, Nat.add_zero] at hx12_0); have hf12_0 := hfr12 0; (try simp only [show ((Kd.slice 5 (Kd.int .u8))).sz = 1 from rfl, Nat.mul_one, Nat.add_zero] at hf12_0); clear hcl12 hcc12 hfr12 hoki12 hH12; (try simp only [show ((Kd.slice 5 (Kd.int .u8))).sz = 1 from rfl, Nat.mul_one, Nat.add_zero] at HP12)) | ((with_reducible refine gate_store (t := 22) (p := 21) rfl ?_); refine store_event (t := 22) (p := 21) (v := ?vo_w13) (w1 := (w11.setCell ⟨go10, (x4_1 : Int).toNat, none⟩ (v807))) ?hg ?ho ?hn ?hr ?_; (case ho => rfl); (case hg => rfl); (case hn => rfl); (case hr => (obtain ⟨Ao807_, co807_, eo807_⟩ := Kd.R_slice HO808.out; go_simp; done)); intro w13 hw; have hg : w11.grownBy w13 (some go10) := (by rw [hw]; exact HP12.2); have hp_ : Kd.S (Kd.slice 5 (Kd.int .u8)) 22 w13 w.heap.size (fun _ => True) (.slice (some ⟨go10, 0, none⟩) x3_1.length co10) y809 := (by rw [hw, Ny809.out]; exact HP12.1); clear HP12; replace HO_3 := Am hp_; replace HB := Am ((by rw [hw]; exact below_set (HB.out) GB10.out : Below w.heap.size w w13)); clear HO808; clear hg hw hp_))
    go_roundg k1
    case measure => have := HK1.out; omega
    case rel => exact ⟨(y809), (wrap64 (x4_1 + 1)), (by rfl), H', ⟨by have := HK1.out; omega⟩, ⟨by exact HO_3.out⟩, ⟨HB.out⟩⟩
   ·rw [if_neg c6] at H
    have c6b0 : decide (x4_1 < (l0.length : Int)) = false := decide_eq_false c6
    clear c6
    obtain rfl := Option.some.inj H
    go_wp2
    go_ret
    exact ⟨_, by rfl, by exact HO_3.out, HB.out⟩
def q1c.f (a0_0 : ByteArray) (a0_1 : Int) : Option (ByteArray × Int) := some (a0_0, a0_1)
set_option maxHeartbeats 8000000 in
set_option maxRecDepth 100000 in
theorem q1c.calls (a0_0 : ByteArray) (a0_1 : Int) (r1 : ByteArray) (r2 : Int) (w : World) (h : q1c.f a0_0 a0_1 = some (r1, r2)) :
  Calls Tryz.prog 245 #[.agg #[.string a0_0, .int .i64 a0_1]] w fun e w' => e = .returned (.agg #[.string r1, .int .i64 r2]) ∧ Below w.heap.size w w' := by
 have hu267 := Tryz.underlying267
 have hu143 := Tryz.underlying143
 have HB := Am (Below.refl w.heap.size w)
 have H : (some (a0_0, a0_1)) = some (r1, r2) := h
 clear h
 simp only [Option.some.injEq, Prod.mk.injEq] at H
 obtain ⟨rfl, rfl⟩ := H
 go_enter Tryz.func245, Tryz.ntmps245
 go_wp2_with (first | ((with_reducible refine gate_dst (N := 1) rfl ?_); refine box_event ?hg (N := 1) ?hd (cs := #[.string a0_0, .int .i64 a0_1]) (t := 267) ?hr ?_; (case hd => rfl); (case hg => rfl); (case hr => (go_simp; done)); intro gb764 hg w2 hbox hb; have BK764 := Am hbox; have GW764 := Am ((nge hg HB.out)); have GE764 := Am ((nge hg HB.out)); replace HB := Am (below_step HB.out hb); clear hb hbox hg) | ((with_reducible refine gate_dst (N := 2) rfl ?_); refine box_event ?hg (N := 2) ?hd (cs := #[.string (⟨#[]⟩ : ByteArray), .int .i64 0]) (t := 143) ?hr ?_; (case hd => rfl); (case hg => rfl); (case hr => (go_simp; done)); intro gb765 hg w3 hbox hb; have BK765 := Am hbox; have GW765 := Am ((nge hg HB.out)); have GE765 := Am ((nge hg HB.out)); replace HB := Am (below_step HB.out hb); have NB764_765 := Am ((nlt hg (g := gb764) (o := .cells #[.string a0_0, .int .i64 a0_1] 267 (0, 0)) BK764.out)); have NB765_764 := Am ((ngt hg (g := gb764) (o := .cells #[.string a0_0, .int .i64 a0_1] 267 (0, 0)) BK764.out)); replace BK764 := Am (blk_below BK764.out hb); clear hb hbox hg) | ((with_reducible refine gate_dst (N := 3) rfl ?_); refine box_event ?hg (N := 3) ?hd (cs := #[.string (⟨#[]⟩ : ByteArray), .int .i64 0]) (t := 143) ?hr ?_; (case hd => rfl); (case hg => rfl); (case hr => (go_simp; done)); intro gb766 hg w4 hbox hb; have BK766 := Am hbox; have GW766 := Am ((nge hg HB.out)); have GE766 := Am ((nge hg HB.out)); replace HB := Am (below_step HB.out hb); have NB764_766 := Am ((nlt hg (g := gb764) (o := .cells #[.string a0_0, .int .i64 a0_1] 267 (0, 0)) BK764.out)); have NB766_764 := Am ((ngt hg (g := gb764) (o := .cells #[.string a0_0, .int .i64 a0_1] 267 (0, 0)) BK764.out)); replace BK764 := Am (blk_below BK764.out hb); have NB765_766 := Am ((nlt hg (g := gb765) (o := .cells #[.string (⟨#[]⟩ : ByteArray), .int .i64 0] 143 (0, 0)) BK765.out)); have NB766_765 := Am ((ngt hg (g := gb765) (o := .cells #[.string (⟨#[]⟩ : ByteArray), .int .i64 0] 143 (0, 0)) BK765.out)); replace BK765 := Am (blk_below BK765.out hb); clear hb hbox hg; have hnb5 := NB764_765.out; have hnc5 := NB765_764.out; have hnb6 := NB764_766.out; have hnc6 := NB766_764.out; obtain ⟨hcz7_0, hcz7_1, hfz7_0, hfz7_1⟩ := cb2 BK764.out; have hnb8 := NB766_765.out; have hnc8 := NB765_766.out; obtain ⟨hcz9_0, hcz9_1, hfz9_0, hfz9_1⟩ := cb2 BK766.out; obtain ⟨hcz10_0, hcz10_1, hfz10_0, hfz10_1⟩ := cb2 BK765.out))
 refine bodyPost_ret (results_cell_row rfl _ _ gb765 143 #[.string a0_0, .int .i64 a0_1] (0, 0) _ rfl (by refine blk_put (cs := #[.string a0_0, .int .i64 0]) ?_ 1 _ rfl; refine blk_put (cs := #[.string (⟨#[]⟩ : ByteArray), .int .i64 0]) ?_ 0 _ rfl; refine blk_far ?_ NB765_766.out _; refine blk_far ?_ NB765_766.out _; exact BK765.out) Tryz.underlying143 rfl (by kernel_rfl)) rfl ?_
 exact ⟨by rfl, by repeat ((with_reducible first | exact HB.out | refine below_set ?_ GE765.out | refine below_set ?_ GE766.out))⟩
def q1d.l0 : Nat → List (S267) → List (S143) → Int → Option ((List (S143)))
 | 0, _, _, _ => none
 | k + 1, x0, x3, x4 => if x4 < (x0.length : Int) then (if 0 ≤ x4 then ((q1c.f ((rd_T267 x0 x4).f0) ((rd_T267 x0 x4).f1)).bind fun bt771 => (if x4 < (x3.length : Int) then (q1d.l0 k x0 (x3.set (x4 : Int).toNat (⟨bt771.1, bt771.2⟩ : S143)) (wrap64 (x4 + 1))) else (none))) else (none)) else (some x3)
def q1d.f (k : Nat) (l0 : List (S267)) : Option ((List (S143))) := if 0 ≤ (l0.length : Int) then (if ((l0.length : Int) : Int).toNat ≤ 11728124029610 then (q1d.l0 k l0 (List.replicate ((l0.length : Int) : Int).toNat z143) 0) else (none)) else (none)
theorem q1d.mono_l : ∀ k, (∀ y0 y1 y2, LeO (q1d.l0 k y0 y1 y2) (q1d.l0 (k + 1) y0 y1 y2))
 | 0 => fun _ _ _ r h => by simp [q1d.l0] at h
 | k + 1 => by
  have ih0 := q1d.mono_l k
  ·intro y0 y1 y2
   unfold q1d.l0
   repeat' first | (with_reducible exact ih0 _ _ _) | (with_reducible exact LeO.refl _) | (with_reducible refine LeO.ite ?_ ?_) | (with_reducible refine LeO.bind ?_ (fun _ => ?_))
theorem q1d.mono : ∀ a0 k, LeO (q1d.f k a0) (q1d.f (k + 1) a0) := by
 intro a0 k
 have ih0 := q1d.mono_l k
 unfold q1d.f
 repeat' first | (with_reducible exact ih0 _ _ _) | (with_reducible exact LeO.refl _) | (with_reducible refine LeO.ite ?_ ?_)
set_option maxHeartbeats 8000000 in
set_option maxRecDepth 100000 in
theorem q1d.calls (k : Nat) (A0 : Option Addr) (c0 : Nat) (l0 : List (S267)) (r : List (S143)) (w : World) (hr0 : Kd.C k267 w A0 l0.length l0) (hc0 : l0.length ≤ c0) (h : q1d.f k l0 = some r) :
  Calls Tryz.prog 200 #[.slice A0 l0.length c0] w fun e w' => ∃ v0_ : Value, e = .returned (v0_) ∧ Kd.R k143 143 w' w.heap.size (fun _ => True) v0_ r ∧ Below w.heap.size w w' := by
 have hu267 := Tryz.underlying267
 have hu143 := Tryz.underlying143
 have HR0 := Am hr0
 have HC0 := Am hc0
 clear hr0 hc0
 have HB := Am (Below.refl w.heap.size w)
 have H : (if 0 ≤ (l0.length : Int) then (if ((l0.length : Int) : Int).toNat ≤ 11728124029610 then (q1d.l0 k l0 (List.replicate ((l0.length : Int) : Int).toNat z143) 0) else (none)) else (none)) = some r := h
 clear h
 replace H := ino H
 obtain ⟨c2, H⟩ := H
 have c2b0 := eq_true c2
 have c2b1 : decide (0 ≤ (l0.length : Int)) = true := decide_eq_true c2
 clear c2
 replace H := ino H
 obtain ⟨c3, H⟩ := H
 have c3b0 := eq_true c3
 have c3b1 : decide (((l0.length : Int) : Int).toNat ≤ 11728124029610) = true := decide_eq_true c3
 clear c3
 obtain ⟨y767, hy767⟩ : ∃ y_ : List (S143), y_ = (List.replicate ((l0.length : Int) : Int).toNat z143) := ⟨_, rfl⟩
 replace H : (q1d.l0 k l0 y767 0) = some r := by (rw [hy767]; with_reducible exact H)
 have Ny767 := Am hy767
 clear hy767
 have H' := Am H
 clear H
 go_enter Tryz.func200, Tryz.ntmps200
 go_wp2_with (((with_reducible refine gate_dst (N := 7) rfl ?_); refine Kd.R_make k143 _ 143 rfl (N := 7) rfl 84 _ _ rfl (l0.length : Int) rfl rfl Tryz.underlying84 (.agg #[(.string ⟨#[]⟩), (.int .i64 0)]) 24 info143 rfl (by decide) (by omega) z143 (ok := fun _ => True) (okp := fun _ => True) (k143_mkM _ _ _ z143 ) (fun _ hk => hk) trivial (od (by assumption)) (Nat.le_trans (Nat.mul_le_mul_right _ (od (by assumption) : (l0.length : Int).toNat ≤ 11728124029610)) (by omega)) (Below.refl _ _) (Nat.le_refl _) ?_; intro v768 w4 ho5 hb hg_ hnew_; clear hg_ hnew_; (rw [← Ny767.out] at ho5); have HO769 := Am (Kd.R_lower ho5 (below_size HB.out)); replace HB := Am (below_step HB.out hb); clear hb ho5))
 go_loopg [4] k (fun kq v4 w' => ∃ (x3_1 : List (S143)) (x4_1 : Int), v4 = .int .i64 x4_1 ∧ Aside0 (q1d.l0 kq l0 x3_1 x4_1 = some r) ∧ Aside0 (kq ≤ k) ∧ Aside0 (Kd.R k143 143 w' w.heap.size (fun _ => True) v768 x3_1) ∧ Aside0 (Below w.heap.size w w'))
 case atStart => exact ⟨(y767), (0), (by rfl), H', ⟨Nat.le_refl _⟩, ⟨by exact HO769.out⟩, ⟨HB.out⟩⟩
 case round =>
  clear H'
  try clear c2b0
  try clear c2b1
  try clear c3b0
  try clear c3b1
  obtain ⟨x3_1, x4_1, rfl, HA, HK1, HO_3, HB⟩ := hrel
  cases gk with
  | zero => exact absurd HA.out (by simp [q1d.l0])
  | succ k1 =>
   have H := HA.out
   clear HA
   simp only [q1d.l0] at H
   by_cases c6 : x4_1 < (l0.length : Int)
   ·rw [if_pos c6] at H
    have c6b0 : decide (x4_1 < (l0.length : Int)) = true := decide_eq_true c6
    clear c6
    replace H := ino H
    obtain ⟨c7, H⟩ := H
    have c7b0 : decide (0 ≤ x4_1) = true := decide_eq_true c7
    clear c7
    replace H := Option.bind_eq_some_iff.mp H
    obtain ⟨⟨t771, t772⟩, A80, H⟩ := H
    replace H : (if x4_1 < (x3_1.length : Int) then (q1d.l0 k1 l0 (x3_1.set (x4_1 : Int).toNat (⟨t771, t772⟩ : S143)) (wrap64 (x4_1 + 1))) else (none)) = some r := H
    have A8 := Am A80
    clear A80
    replace H := ino H
    obtain ⟨c9, H⟩ := H
    have c9b0 : decide (x4_1 < (x3_1.length : Int)) = true := decide_eq_true c9
    clear c9
    obtain ⟨y773, hy773⟩ : ∃ y_ : List (S143), y_ = (x3_1.set (x4_1 : Int).toNat (⟨t771, t772⟩ : S143)) := ⟨_, rfl⟩
    replace H : (q1d.l0 k1 l0 y773 (wrap64 (x4_1 + 1))) = some r := by (rw [hy773]; with_reducible exact H)
    have Ny773 := Am hy773
    clear hy773
    have H' := Am H
    clear H
    have p770 : 0 ≤ (x4_1 : Int) := od (by assumption)
    have q770 : x4_1 < (l0.length : Int) := od (by assumption)
    obtain ⟨ad770, e770, hx770_0, hx770_1⟩ := at_T267 HR0.out x4_1 p770 q770
    cases e770
    replace hx770_0 := pcb HB.out hx770_0
    replace hx770_1 := pcb HB.out hx770_1
    replace p770 := eq_true p770
    replace q770 := eq_true q770
    go_wp2_with (first | ((with_reducible refine gate_callee (f := 245) rfl ?_); refine goesL_ (some 20) rfl rfl Tryz.func245 (by kernel_rfl) rfl #[.agg #[.string ((rd_T267 l0 x4_1).f0), .int .i64 ((rd_T267 l0 x4_1).f1)]] rfl (by (try simp only [List.map_toArray, List.map_cons, List.map_nil]); rfl) ?_; (with_reducible refine (q1c.calls ((rd_T267 l0 x4_1).f0) ((rd_T267 l0 x4_1).f1) t771 t772 _ A8.out).mono ?_); rintro e w11 ⟨rfl, hb⟩; refine ⟨_, rfl, ?_⟩; replace HO_3 := Am (Kd.R_below HO_3.out hb); replace HB := Am (below_step HB.out hb); (try clear hb); have p10 : 0 ≤ (x4_1 : Int) := od (by assumption); have q10 : (x4_1 : Int) < ((x3_1.length : Int) : Int) := od (by assumption); obtain ⟨go10, co10, eo10, gb10, gl10, cl10, HG10⟩ := Kd.R_form HO_3.out (by omega); (cases eo10); have GB10 := Am gb10; have GG10 := Am HG10; clear gb10 gl10 HG10; obtain ⟨ce10, hcl10, hM10, hcc10, hfr10⟩ := Kd.R_elem HO_3.out z143 (x4_1 : Int) p10 q10; obtain rfl := k143_openM hM10; have hx10_0 : w11.cell? ⟨go10, (x4_1 : Int).toNat * 2, none⟩ = some (.string ((rd_T143 x3_1 x4_1).f0)) := hcc10 0 _ rfl; have hx10_1 : w11.cell? ⟨go10, (x4_1 : Int).toNat * 2 + 1, none⟩ = some (.int .i64 ((rd_T143 x3_1 x4_1).f1)) := hcc10 1 _ rfl; have hf10_0 : w11.frozen? ⟨go10, (x4_1 : Int).toNat * 2, none⟩ = false := hfr10 0; have hf10_1 : w11.frozen? ⟨go10, (x4_1 : Int).toNat * 2 + 1, none⟩ = false := hfr10 1; clear hcl10 hcc10 hfr10; (try clear hM10); replace p10 := eq_true p10; replace q10 := eq_true q10; have HX12 := Am (show Kd.R k143 143 w11 w.heap.size (fun _ => True) (.slice (some ⟨go10, 0, none⟩) x3_1.length co10) x3_1 from HO_3.out); obtain ⟨ce12, hcl12, hM12, hcc12, hfr12⟩ := Kd.R_elem HX12.out z143 (x4_1 : Int) (od (by assumption)) (by have h_ : (x4_1 : Int) < ((x3_1.length : Int) : Int) := od (by assumption); exact h_); obtain rfl := k143_openM hM12; have HP12 := Kd.R_seg HX12.out (x4_1 : Int) (od (by assumption)) (by have h_ : (x4_1 : Int) < ((x3_1.length : Int) : Int) := od (by assumption); exact h_) (seg := [.string t771, .int .i64 t772]) (j := 0) hcl12 hcc12 (show 2 ≤ 2 from by decide) (x' := (⟨t771, t772⟩ : S143)) (k143_mkM _ _ _ (⟨t771, t772⟩ : S143) ) (fun _ hk => hk); have hx12_0 := hcc12 0 _ rfl; (try simp only [show (k143).sz = 2 from rfl, Nat.mul_one, Nat.add_zero] at hx12_0); have hf12_0 := hfr12 0; (try simp only [show (k143).sz = 2 from rfl, Nat.mul_one, Nat.add_zero] at hf12_0); have hx12_1 := hcc12 1 _ rfl; (try simp only [show (k143).sz = 2 from rfl, Nat.mul_one, Nat.add_zero] at hx12_1); have hf12_1 := hfr12 1; (try simp only [show (k143).sz = 2 from rfl, Nat.mul_one, Nat.add_zero] at hf12_1); clear hcl12 hcc12 hfr12; (try clear hM12)) | ((with_reducible refine gate_store (t := 143) (p := 21) rfl ?_); refine store_event (t := 143) (p := 21) (v := ?vo_w13) (w1 := ((w11.setCell ⟨go10, (x4_1 : Int).toNat * 2, none⟩ (.string t771)).setCell ⟨go10, (x4_1 : Int).toNat * 2 + 1, none⟩ (.int .i64 t772))) ?hg ?ho ?hn ?hr ?_; (case ho => rfl); (case hg => rfl); (case hn => rfl); (case hr => (go_simp; done)); intro w13 hw; have hg : w11.grownBy w13 (some go10) := (by rw [hw]; exact HP12.2); have hp_ : Kd.R k143 143 w13 w.heap.size (fun _ => True) (.slice (some ⟨go10, 0, none⟩) x3_1.length co10) y773 := (by rw [hw, Ny773.out]; exact HP12.1); clear HP12; replace HO_3 := Am hp_; replace HB := Am ((by rw [hw]; exact below_set (below_set (HB.out) GB10.out) GB10.out : Below w.heap.size w w13)); clear hg hw hp_))
    go_roundg k1
    case measure => have := HK1.out; omega
    case rel => exact ⟨(y773), (wrap64 (x4_1 + 1)), (by rfl), H', ⟨by have := HK1.out; omega⟩, ⟨by exact HO_3.out⟩, ⟨HB.out⟩⟩
   ·rw [if_neg c6] at H
    have c6b0 : decide (x4_1 < (l0.length : Int)) = false := decide_eq_false c6
    clear c6
    obtain rfl := Option.some.inj H
    go_wp2
    go_ret
    exact ⟨_, by rfl, by exact HO_3.out, HB.out⟩
def q1h.l0 : Nat → List Int → List Int → Int → Option (List Int)
 | 0, _, _, _ => none
 | k + 1, x0, x3, x4 => if x4 < (x0.length : Int) then (if 0 ≤ x4 then (if x4 < (x3.length : Int) then (q1h.l0 k x0 (x3.set (x4 : Int).toNat (rd x0 x4)) (wrap64 (x4 + 1))) else (none)) else (none)) else (some x3)
def q1h.f (k : Nat) (l0 : List Int) : Option (List Int) := if 0 ≤ (l0.length : Int) then (if ((l0.length : Int) : Int).toNat ≤ 35184372088832 then (q1h.l0 k l0 (List.replicate ((l0.length : Int) : Int).toNat 0) 0) else (none)) else (none)
theorem q1h.mono_l : ∀ k, (∀ y0 y1 y2, LeO (q1h.l0 k y0 y1 y2) (q1h.l0 (k + 1) y0 y1 y2))
 | 0 => fun _ _ _ r h => by simp [q1h.l0] at h
 | k + 1 => by
  have ih0 := q1h.mono_l k
  ·intro y0 y1 y2
   unfold q1h.l0
   repeat' first | (with_reducible exact ih0 _ _ _) | (with_reducible exact LeO.refl _) | (with_reducible refine LeO.ite ?_ ?_)
theorem q1h.mono : ∀ a0 k, LeO (q1h.f k a0) (q1h.f (k + 1) a0) := by
 intro a0 k
 have ih0 := q1h.mono_l k
 unfold q1h.f
 repeat' first | (with_reducible exact ih0 _ _ _) | (with_reducible exact LeO.refl _) | (with_reducible refine LeO.ite ?_ ?_)
set_option maxHeartbeats 8000000 in
set_option maxRecDepth 100000 in
theorem q1h.calls (k : Nat) (A0 : Option Addr) (c0 : Nat) (l0 : List Int) (r : List Int) (w : World) (hr0 : Kd.C (Kd.int .i64) w A0 l0.length l0) (hc0 : l0.length ≤ c0) (h : q1h.f k l0 = some r) :
  Calls Tryz.prog 199 #[.slice A0 l0.length c0] w fun e w' => ∃ v0_ : Value, e = .returned (v0_) ∧ Kd.R (Kd.int .i64) 2 w' w.heap.size (fun _ => True) v0_ r ∧ Below w.heap.size w w' := by
 have HR0 := Am hr0
 have HC0 := Am hc0
 clear hr0 hc0
 have HB := Am (Below.refl w.heap.size w)
 have H : (if 0 ≤ (l0.length : Int) then (if ((l0.length : Int) : Int).toNat ≤ 35184372088832 then (q1h.l0 k l0 (List.replicate ((l0.length : Int) : Int).toNat 0) 0) else (none)) else (none)) = some r := h
 clear h
 replace H := ino H
 obtain ⟨c2, H⟩ := H
 have c2b0 := eq_true c2
 have c2b1 : decide (0 ≤ (l0.length : Int)) = true := decide_eq_true c2
 clear c2
 replace H := ino H
 obtain ⟨c3, H⟩ := H
 have c3b0 := eq_true c3
 have c3b1 : decide (((l0.length : Int) : Int).toNat ≤ 35184372088832) = true := decide_eq_true c3
 clear c3
 obtain ⟨y759, hy759⟩ : ∃ y_ : List Int, y_ = (List.replicate ((l0.length : Int) : Int).toNat 0) := ⟨_, rfl⟩
 replace H : (q1h.l0 k l0 y759 0) = some r := by (rw [hy759]; with_reducible exact H)
 have Ny759 := Am hy759
 clear hy759
 have H' := Am H
 clear H
 go_enter Tryz.func199, Tryz.ntmps199
 go_wp2_with (((with_reducible refine gate_dst (N := 7) rfl ?_); refine Kd.R_make (Kd.int .i64) _ 2 rfl (N := 7) rfl 38 _ _ rfl (l0.length : Int) rfl rfl Tryz.underlying38 (.int .i64 0) 8 info2 rfl (by decide) (by omega) 0 (ok := fun _ => True) (okp := fun _ => True) rfl (fun _ hk => hk) trivial (od (by assumption)) (Nat.le_trans (Nat.mul_le_mul_right _ (od (by assumption) : (l0.length : Int).toNat ≤ 35184372088832)) (by omega)) (Below.refl _ _) (Nat.le_refl _) ?_; intro v760 w4 ho5 hb hg_ hnew_; clear hg_ hnew_; (rw [← Ny759.out] at ho5); have HO761 := Am (Kd.R_lower ho5 (below_size HB.out)); replace HB := Am (below_step HB.out hb); clear hb ho5))
 go_loopg [4] k (fun kq v4 w' => ∃ (x3_1 : List Int) (x4_1 : Int), v4 = .int .i64 x4_1 ∧ Aside0 (q1h.l0 kq l0 x3_1 x4_1 = some r) ∧ Aside0 (kq ≤ k) ∧ Aside0 (Kd.R (Kd.int .i64) 2 w' w.heap.size (fun _ => True) v760 x3_1) ∧ Aside0 (Below w.heap.size w w'))
 case atStart => exact ⟨(y759), (0), (by rfl), H', ⟨Nat.le_refl _⟩, ⟨by exact HO761.out⟩, ⟨HB.out⟩⟩
 case round =>
  clear H'
  try clear c2b0
  try clear c2b1
  try clear c3b0
  try clear c3b1
  obtain ⟨x3_1, x4_1, rfl, HA, HK1, HO_3, HB⟩ := hrel
  cases gk with
  | zero => exact absurd HA.out (by simp [q1h.l0])
  | succ k1 =>
   have H := HA.out
   clear HA
   simp only [q1h.l0] at H
   by_cases c6 : x4_1 < (l0.length : Int)
   ·rw [if_pos c6] at H
    have c6b0 : decide (x4_1 < (l0.length : Int)) = true := decide_eq_true c6
    clear c6
    replace H := ino H
    obtain ⟨c7, H⟩ := H
    have c7b0 : decide (0 ≤ x4_1) = true := decide_eq_true c7
    clear c7
    replace H := ino H
    obtain ⟨c8, H⟩ := H
    have c8b0 : decide (x4_1 < (x3_1.length : Int)) = true := decide_eq_true c8
    clear c8
    obtain ⟨y763, hy763⟩ : ∃ y_ : List Int, y_ = (x3_1.set (x4_1 : Int).toNat (rd l0 x4_1)) := ⟨_, rfl⟩
    replace H : (q1h.l0 k1 l0 y763 (wrap64 (x4_1 + 1))) = some r := by (rw [hy763]; with_reducible exact H)
    have Ny763 := Am hy763
    clear hy763
    have H' := Am H
    clear H
    have p762 : 0 ≤ (x4_1 : Int) := od (by assumption)
    have q762 : x4_1 < (l0.length : Int) := od (by assumption)
    obtain ⟨ad762, e762, hx762_0⟩ := Kd.at_int HR0.out x4_1 p762 q762
    cases e762
    replace hx762_0 := pcb HB.out hx762_0
    replace p762 := eq_true p762
    replace q762 := eq_true q762
    have p9 : 0 ≤ (x4_1 : Int) := od (by assumption)
    have q9 : (x4_1 : Int) < ((x3_1.length : Int) : Int) := od (by assumption)
    obtain ⟨go9, co9, eo9, gb9, gl9, cl9, HG9⟩ := Kd.R_form HO_3.out (by omega)
    (cases eo9)
    have GB9 := Am gb9
    have GG9 := Am HG9
    clear gb9 gl9 HG9
    obtain ⟨hx9_0, hf9_0⟩ := Kd.R_celln 0 HO_3.out (x4_1 : Int) p9 q9
    replace p9 := eq_true p9
    replace q9 := eq_true q9
    have HP10 := Kd.R_putg HO_3.out (x4_1 : Int) (rd l0 x4_1)
    go_wp2_with (((with_reducible refine gate_store (t := 2) (p := 20) rfl ?_); refine store_event (t := 2) (p := 20) (v := ?vo_w11) (w1 := (wr.setCell ⟨go9, (x4_1 : Int).toNat, none⟩ (.int .i64 (rd l0 x4_1)))) ?hg ?ho ?hn ?hr ?_; (case ho => rfl); (case hg => rfl); (case hn => rfl); (case hr => (go_simp; done)); intro w11 hw; have hg : wr.grownBy w11 (some go9) := (by rw [hw]; exact HP10.2); have hp_ : Kd.R (Kd.int .i64) 2 w11 w.heap.size (fun _ => True) (.slice (some ⟨go9, 0, none⟩) x3_1.length co9) y763 := (by rw [hw, Ny763.out]; exact HP10.1); clear HP10; replace HO_3 := Am hp_; replace HB := Am ((by rw [hw]; exact below_set (HB.out) GB9.out : Below w.heap.size w w11)); clear hg hw hp_))
    go_roundg k1
    case measure => have := HK1.out; omega
    case rel => exact ⟨(y763), (wrap64 (x4_1 + 1)), (by rfl), H', ⟨by have := HK1.out; omega⟩, ⟨by exact HO_3.out⟩, ⟨HB.out⟩⟩
   ·rw [if_neg c6] at H
    have c6b0 : decide (x4_1 < (l0.length : Int)) = false := decide_eq_false c6
    clear c6
    obtain rfl := Option.some.inj H
    go_wp2
    go_ret
    exact ⟨_, by rfl, by exact HO_3.out, HB.out⟩
def q1f.f (k : Nat) (a0_0 : Int) (a0_1 : Int) (a0_2 : Int) (l0_3 : List Int) (l0_4 : List (S267)) : Option (Int × Int × Int × List Int × (List (S143))) := (q1h.f k l0_3).bind fun t777 => ((q1d.f k l0_4).bind fun t780 => (some (a0_0, a0_1, a0_2, t777, t780)))
theorem q1f.mono : ∀ a0 a1 a2 a3 a4 k, LeO (q1f.f k a0 a1 a2 a3 a4) (q1f.f (k + 1) a0 a1 a2 a3 a4) := by
 intro a0 a1 a2 a3 a4 k
 unfold q1f.f
 repeat' first | (with_reducible exact q1d.mono _ _) | (with_reducible exact q1h.mono _ _) | (with_reducible exact LeO.refl _) | (with_reducible refine LeO.bind ?_ (fun _ => ?_))
set_option maxHeartbeats 8000000 in
set_option maxRecDepth 100000 in
theorem q1f.calls (k : Nat) (a0_0 : Int) (a0_1 : Int) (a0_2 : Int) (A0_3 : Option Addr) (c0_3 : Nat) (l0_3 : List Int) (A0_4 : Option Addr) (c0_4 : Nat) (l0_4 : List (S267)) (r1 : Int) (r2 : Int) (r3 : Int) (r4 : List Int) (r5 : List (S143)) (w : World) (hr0_3 : Kd.C (Kd.int .i64) w A0_3 l0_3.length l0_3) (hc0_3 : l0_3.length ≤ c0_3) (hr0_4 : Kd.C k267 w A0_4 l0_4.length l0_4) (hc0_4 : l0_4.length ≤ c0_4) (h : q1f.f k a0_0 a0_1 a0_2 l0_3 l0_4 = some (r1, r2, r3, r4, r5)) :
  Calls Tryz.prog 130 #[.agg #[.int .i64 a0_0, .int .i64 a0_1, .int .i64 a0_2, .slice A0_3 l0_3.length c0_3, .slice A0_4 l0_4.length c0_4]] w fun e w' => ∃ v3_ v4_ : Value, e = .returned (.agg #[.int .i64 r1, .int .i64 r2, .int .i64 r3, v3_, v4_]) ∧ Kd.R (Kd.int .i64) 2 w' w.heap.size (fun _ => True) v3_ r4 ∧ Kd.R k143 143 w' w.heap.size (fun _ => True) v4_ r5 ∧ Below w.heap.size w w' := by
 have hu159 := Tryz.underlying159
 have hu86 := Tryz.underlying86
 have HR0_3 := Am hr0_3
 have HC0_3 := Am hc0_3
 clear hr0_3 hc0_3
 have HR0_4 := Am hr0_4
 have HC0_4 := Am hc0_4
 clear hr0_4 hc0_4
 have HB := Am (Below.refl w.heap.size w)
 have H : ((q1h.f k l0_3).bind fun t777 => ((q1d.f k l0_4).bind fun t780 => (some (a0_0, a0_1, a0_2, t777, t780)))) = some (r1, r2, r3, r4, r5) := h
 clear h
 replace H := zbs H
 obtain ⟨t777, A2, H⟩ := H
 replace H := zbs H
 obtain ⟨t780, A3, H⟩ := H
 simp only [Option.some.injEq, Prod.mk.injEq] at H
 obtain ⟨rfl, rfl, rfl, rfl, rfl⟩ := H
 go_enter Tryz.func130, Tryz.ntmps130
 go_wp2_with (first | ((with_reducible refine gate_dst (N := 1) rfl ?_); refine box_event ?hg (N := 1) ?hd (cs := #[.int .i64 a0_0, .int .i64 a0_1, .int .i64 a0_2, .slice A0_3 l0_3.length c0_3, .slice A0_4 l0_4.length c0_4]) (t := 159) ?hr ?_; (case hd => rfl); (case hg => rfl); (case hr => (go_simp; done)); intro gb774 hg w4 hbox hb; have BK774 := Am hbox; have GW774 := Am ((nge hg HB.out)); have GE774 := Am ((nge hg HB.out)); replace HB := Am (below_step HB.out hb); clear hb hbox hg) | ((with_reducible refine gate_dst (N := 2) rfl ?_); refine box_event ?hg (N := 2) ?hd (cs := #[.int .i64 0, .int .i64 0, .int .i64 0, .slice none 0 0, .slice none 0 0]) (t := 86) ?hr ?_; (case hd => rfl); (case hg => rfl); (case hr => (go_simp; done)); intro gb775 hg w5 hbox hb; have BK775 := Am hbox; have GW775 := Am ((nge hg HB.out)); have GE775 := Am ((nge hg HB.out)); replace HB := Am (below_step HB.out hb); have NB774_775 := Am ((nlt hg (g := gb774) (o := .cells #[.int .i64 a0_0, .int .i64 a0_1, .int .i64 a0_2, .slice A0_3 l0_3.length c0_3, .slice A0_4 l0_4.length c0_4] 159 (0, 0)) BK774.out)); have NB775_774 := Am ((ngt hg (g := gb774) (o := .cells #[.int .i64 a0_0, .int .i64 a0_1, .int .i64 a0_2, .slice A0_3 l0_3.length c0_3, .slice A0_4 l0_4.length c0_4] 159 (0, 0)) BK774.out)); replace BK774 := Am (blk_below (g := gb774) (o := .cells #[.int .i64 a0_0, .int .i64 a0_1, .int .i64 a0_2, .slice A0_3 l0_3.length c0_3, .slice A0_4 l0_4.length c0_4] 159 (0, 0)) BK774.out hb); clear hb hbox hg) | ((with_reducible refine gate_dst (N := 3) rfl ?_); refine box_event ?hg (N := 3) ?hd (cs := #[.int .i64 0, .int .i64 0, .int .i64 0, .slice none 0 0, .slice none 0 0]) (t := 86) ?hr ?_; (case hd => rfl); (case hg => rfl); (case hr => (go_simp; done)); intro gb776 hg w6 hbox hb; have BK776 := Am hbox; have GW776 := Am ((nge hg HB.out)); have GE776 := Am ((nge hg HB.out)); replace HB := Am (below_step HB.out hb); have NB774_776 := Am ((nlt hg (g := gb774) (o := .cells #[.int .i64 a0_0, .int .i64 a0_1, .int .i64 a0_2, .slice A0_3 l0_3.length c0_3, .slice A0_4 l0_4.length c0_4] 159 (0, 0)) BK774.out)); have NB776_774 := Am ((ngt hg (g := gb774) (o := .cells #[.int .i64 a0_0, .int .i64 a0_1, .int .i64 a0_2, .slice A0_3 l0_3.length c0_3, .slice A0_4 l0_4.length c0_4] 159 (0, 0)) BK774.out)); replace BK774 := Am (blk_below (g := gb774) (o := .cells #[.int .i64 a0_0, .int .i64 a0_1, .int .i64 a0_2, .slice A0_3 l0_3.length c0_3, .slice A0_4 l0_4.length c0_4] 159 (0, 0)) BK774.out hb); have NB775_776 := Am ((nlt hg (g := gb775) (o := .cells #[.int .i64 0, .int .i64 0, .int .i64 0, .slice none 0 0, .slice none 0 0] 86 (0, 0)) BK775.out)); have NB776_775 := Am ((ngt hg (g := gb775) (o := .cells #[.int .i64 0, .int .i64 0, .int .i64 0, .slice none 0 0, .slice none 0 0] 86 (0, 0)) BK775.out)); replace BK775 := Am (blk_below (g := gb775) (o := .cells #[.int .i64 0, .int .i64 0, .int .i64 0, .slice none 0 0, .slice none 0 0] 86 (0, 0)) BK775.out hb); clear hb hbox hg; have hnb7 := NB774_775.out; have hnc7 := NB775_774.out; have hnb8 := NB774_776.out; have hnc8 := NB776_774.out; obtain ⟨hcz9_0, hcz9_1, hcz9_2, hcz9_3, hcz9_4, hfz9_0, hfz9_1, hfz9_2, hfz9_3, hfz9_4⟩ := cb5 BK774.out; have hnb10 := NB776_775.out; have hnc10 := NB775_776.out; obtain ⟨hcz11_0, hcz11_1, hcz11_2, hcz11_3, hcz11_4, hfz11_0, hfz11_1, hfz11_2, hfz11_3, hfz11_4⟩ := cb5 BK776.out) | ((with_reducible refine gate_callee (f := 199) rfl ?_); refine goesL_ (some 15) rfl rfl Tryz.func199 (by kernel_rfl) rfl #[.slice A0_3 l0_3.length c0_3] rfl (by (try simp only [List.map_toArray, List.map_cons, List.map_nil]); rfl) ?_; (with_reducible refine (q1h.calls k _ _ l0_3 t777 _ ?side1 ?side2 A2.out).mono ?_); (case side1 => exact Kd.C_below HR0_3.out (by repeat ((with_reducible first | exact HB.out | refine below_set ?_ GE776.out)))); (case side2 => exact HC0_3.out); rintro e w12 ⟨v778, rfl, ho0, hb⟩; refine ⟨_, rfl, ?_⟩; have HO779 := Am (Kd.R_lower ho0 (below_size (by repeat ((with_reducible first | exact HB.out | refine below_set ?_ GE776.out))))); replace BK774 := Am (blk_below (g := gb774) (o := .cells #[.int .i64 a0_0, .int .i64 a0_1, .int .i64 a0_2, .slice A0_3 l0_3.length c0_3, .slice A0_4 l0_4.length c0_4] 159 (0, 0)) (by refine blk_far ?_ NB774_776.out _; refine blk_far ?_ NB774_776.out _; refine blk_far ?_ NB774_776.out _; exact BK774.out) hb); replace BK775 := Am (blk_below (g := gb775) (o := .cells #[.int .i64 0, .int .i64 0, .int .i64 0, .slice none 0 0, .slice none 0 0] 86 (0, 0)) (by refine blk_far ?_ NB775_776.out _; refine blk_far ?_ NB775_776.out _; refine blk_far ?_ NB775_776.out _; exact BK775.out) hb); replace BK776 := Am (blk_below (g := gb776) (o := .cells #[.int .i64 a0_0, .int .i64 a0_1, .int .i64 a0_2, .slice none 0 0, .slice none 0 0] 86 (0, 0)) (by refine blk_put (cs := #[.int .i64 a0_0, .int .i64 a0_1, .int .i64 0, .slice none 0 0, .slice none 0 0]) ?_ 2 _ rfl; refine blk_put (cs := #[.int .i64 a0_0, .int .i64 0, .int .i64 0, .slice none 0 0, .slice none 0 0]) ?_ 1 _ rfl; refine blk_put (cs := #[.int .i64 0, .int .i64 0, .int .i64 0, .slice none 0 0, .slice none 0 0]) ?_ 0 _ rfl; exact BK776.out) hb); replace HB := Am (below_step (by repeat ((with_reducible first | exact HB.out | refine below_set ?_ GE776.out))) hb); (try clear hb); (try clear ho0); obtain ⟨Ao13, co13, eo13⟩ := Kd.R_slice HO779.out; subst eo13; obtain ⟨hcz14_0, hcz14_1, hcz14_2, hcz14_3, hcz14_4, hfz14_0, hfz14_1, hfz14_2, hfz14_3, hfz14_4⟩ := cb5 BK776.out; obtain ⟨hcz15_0, hcz15_1, hcz15_2, hcz15_3, hcz15_4, hfz15_0, hfz15_1, hfz15_2, hfz15_3, hfz15_4⟩ := cb5 BK774.out) | ((with_reducible refine gate_callee (f := 200) rfl ?_); refine goesL_ (some 19) rfl rfl Tryz.func200 (by kernel_rfl) rfl #[.slice A0_4 l0_4.length c0_4] rfl (by (try simp only [List.map_toArray, List.map_cons, List.map_nil]); rfl) ?_; (with_reducible refine (q1d.calls k _ _ l0_4 t780 _ ?side1 ?side2 A3.out).mono ?_); (case side1 => exact Kd.C_below HR0_4.out (by repeat ((with_reducible first | exact HB.out | refine below_set ?_ GE776.out)))); (case side2 => exact HC0_4.out); rintro e w16 ⟨v781, rfl, ho0, hb⟩; refine ⟨_, rfl, ?_⟩; replace HO779 := Am (Kd.R_below (by exact (Kd.R_mono (Kd.R_far (p := ⟨gb776, 3, none⟩) (Kd.R_types HO779.out BK776.out (by decide)) (fun _ hk => hk.2) (.slice Ao13 t777.length co13)) (fun _ h_ => h_.1))) hb); have HO782 := Am (Kd.R_lower ho0 (below_size (by repeat ((with_reducible first | exact HB.out | refine below_set ?_ GE776.out))))); replace BK774 := Am (blk_below (g := gb774) (o := .cells #[.int .i64 a0_0, .int .i64 a0_1, .int .i64 a0_2, .slice A0_3 l0_3.length c0_3, .slice A0_4 l0_4.length c0_4] 159 (0, 0)) (by refine blk_far ?_ NB774_776.out _; exact BK774.out) hb); replace BK775 := Am (blk_below (g := gb775) (o := .cells #[.int .i64 0, .int .i64 0, .int .i64 0, .slice none 0 0, .slice none 0 0] 86 (0, 0)) (by refine blk_far ?_ NB775_776.out _; exact BK775.out) hb); replace BK776 := Am (blk_below (g := gb776) (o := .cells #[.int .i64 a0_0, .int .i64 a0_1, .int .i64 a0_2, .slice Ao13 t777.length co13, .slice none 0 0] 86 (0, 0)) (by refine blk_put (cs := #[.int .i64 a0_0, .int .i64 a0_1, .int .i64 a0_2, .slice none 0 0, .slice none 0 0]) ?_ 3 _ rfl; exact BK776.out) hb); replace HB := Am (below_step (by repeat ((with_reducible first | exact HB.out | refine below_set ?_ GE776.out))) hb); (try clear hb); (try clear ho0); obtain ⟨Ao17, co17, eo17⟩ := Kd.R_slice HO782.out; subst eo17; obtain ⟨hcz18_0, hcz18_1, hcz18_2, hcz18_3, hcz18_4, hfz18_0, hfz18_1, hfz18_2, hfz18_3, hfz18_4⟩ := cb5 BK776.out; obtain ⟨hcz19_0, hcz19_1, hcz19_2, hcz19_3, hcz19_4, hfz19_0, hfz19_1, hfz19_2, hfz19_3, hfz19_4⟩ := cb5 BK775.out))
 refine bodyPost_ret (results_cell_row rfl _ _ gb775 86 #[.int .i64 a0_0, .int .i64 a0_1, .int .i64 a0_2, .slice Ao13 t777.length co13, .slice Ao17 t780.length co17] (0, 0) _ rfl (by refine blk_put (cs := #[.int .i64 a0_0, .int .i64 a0_1, .int .i64 a0_2, .slice Ao13 t777.length co13, .slice none 0 0]) ?_ 4 _ rfl; refine blk_put (cs := #[.int .i64 a0_0, .int .i64 a0_1, .int .i64 a0_2, .slice none 0 0, .slice none 0 0]) ?_ 3 _ rfl; refine blk_put (cs := #[.int .i64 a0_0, .int .i64 a0_1, .int .i64 0, .slice none 0 0, .slice none 0 0]) ?_ 2 _ rfl; refine blk_put (cs := #[.int .i64 a0_0, .int .i64 0, .int .i64 0, .slice none 0 0, .slice none 0 0]) ?_ 1 _ rfl; refine blk_put (cs := #[.int .i64 0, .int .i64 0, .int .i64 0, .slice none 0 0, .slice none 0 0]) ?_ 0 _ rfl; refine blk_far ?_ NB775_776.out _; exact BK775.out) Tryz.underlying86 rfl (by kernel_rfl)) rfl ?_
 exact ⟨_, _, by rfl, by exact Kd.R_mono (Kd.R_far (p := ⟨gb775, 4, none⟩) (Kd.R_far (p := ⟨gb775, 3, none⟩) (Kd.R_far (p := ⟨gb775, 2, none⟩) (Kd.R_far (p := ⟨gb775, 1, none⟩) (Kd.R_far (p := ⟨gb775, 0, none⟩) (Kd.R_far (p := ⟨gb776, 4, none⟩) (Kd.R_types (Kd.R_types HO779.out BK776.out (by decide)) BK775.out (by decide)) (fun _ hk => hk.1.2) (.slice Ao17 t780.length co17)) (fun _ hk => hk.2) (.int .i64 a0_0)) (fun _ hk => hk.2) (.int .i64 a0_1)) (fun _ hk => hk.2) (.int .i64 a0_2)) (fun _ hk => hk.2) (.slice Ao13 t777.length co13)) (fun _ hk => hk.2) (.slice Ao17 t780.length co17)) (fun _ hk => trivial), by exact Kd.R_mono (Kd.R_far (p := ⟨gb775, 4, none⟩) (Kd.R_far (p := ⟨gb775, 3, none⟩) (Kd.R_far (p := ⟨gb775, 2, none⟩) (Kd.R_far (p := ⟨gb775, 1, none⟩) (Kd.R_far (p := ⟨gb775, 0, none⟩) (Kd.R_far (p := ⟨gb776, 4, none⟩) (Kd.R_types (Kd.R_types HO782.out BK776.out (by decide)) BK775.out (by decide)) (fun _ hk => hk.1.2) (.slice Ao17 t780.length co17)) (fun _ hk => hk.2) (.int .i64 a0_0)) (fun _ hk => hk.2) (.int .i64 a0_1)) (fun _ hk => hk.2) (.int .i64 a0_2)) (fun _ hk => hk.2) (.slice Ao13 t777.length co13)) (fun _ hk => hk.2) (.slice Ao17 t780.length co17)) (fun _ hk => trivial), by repeat ((with_reducible first | exact HB.out | refine below_set ?_ GE775.out | refine below_set ?_ GE776.out))⟩
def q1g.l0 : Nat → List (S159) → List (S86) → Int → Option ((List (S86)))
 | 0, _, _, _ => none
 | k + 1, x0, x3, x4 => if x4 < (x0.length : Int) then (if 0 ≤ x4 then ((q1f.f k ((rd_T159 x0 x4).f0) ((rd_T159 x0 x4).f1) ((rd_T159 x0 x4).f2) ((rd_T159 x0 x4).f3) ((rd_T159 x0 x4).f4)).bind fun bt787 => (if x4 < (x3.length : Int) then (q1g.l0 k x0 (x3.set (x4 : Int).toNat (⟨bt787.1, bt787.2.1, bt787.2.2.1, bt787.2.2.2.1, bt787.2.2.2.2⟩ : S86)) (wrap64 (x4 + 1))) else (none))) else (none)) else (some x3)
def q1g.f (k : Nat) (l0 : List (S159)) : Option ((List (S86))) := if 0 ≤ (l0.length : Int) then (if ((l0.length : Int) : Int).toNat ≤ 3909374676536 then (q1g.l0 k l0 (List.replicate ((l0.length : Int) : Int).toNat z86) 0) else (none)) else (none)
theorem q1g.mono_l : ∀ k, (∀ y0 y1 y2, LeO (q1g.l0 k y0 y1 y2) (q1g.l0 (k + 1) y0 y1 y2))
 | 0 => fun _ _ _ r h => by simp [q1g.l0] at h
 | k + 1 => by
  have ih0 := q1g.mono_l k
  ·intro y0 y1 y2
   unfold q1g.l0
   repeat' first | (with_reducible exact ih0 _ _ _) | (with_reducible exact q1f.mono _ _ _ _ _ _) | (with_reducible exact LeO.refl _) | (with_reducible refine LeO.ite ?_ ?_) | (with_reducible refine LeO.bind ?_ (fun _ => ?_))
theorem q1g.mono : ∀ a0 k, LeO (q1g.f k a0) (q1g.f (k + 1) a0) := by
 intro a0 k
 have ih0 := q1g.mono_l k
 unfold q1g.f
 repeat' first | (with_reducible exact ih0 _ _ _) | (with_reducible exact LeO.refl _) | (with_reducible refine LeO.ite ?_ ?_)
set_option maxHeartbeats 8000000 in
set_option maxRecDepth 100000 in
theorem q1g.calls (k : Nat) (A0 : Option Addr) (c0 : Nat) (l0 : List (S159)) (r : List (S86)) (w : World) (hr0 : Kd.C k159 w A0 l0.length l0) (hc0 : l0.length ≤ c0) (h : q1g.f k l0 = some r) :
  Calls Tryz.prog 62 #[.slice A0 l0.length c0] w fun e w' => ∃ v0_ : Value, e = .returned (v0_) ∧ Kd.S k86 86 w' w.heap.size (fun _ => True) v0_ r ∧ Below w.heap.size w w' := by
 have hu159 := Tryz.underlying159
 have hu86 := Tryz.underlying86
 have HR0 := Am hr0
 have HC0 := Am hc0
 clear hr0 hc0
 have HB := Am (Below.refl w.heap.size w)
 have H : (if 0 ≤ (l0.length : Int) then (if ((l0.length : Int) : Int).toNat ≤ 3909374676536 then (q1g.l0 k l0 (List.replicate ((l0.length : Int) : Int).toNat z86) 0) else (none)) else (none)) = some r := h
 clear h
 replace H := ino H
 obtain ⟨c2, H⟩ := H
 have c2b0 := eq_true c2
 have c2b1 : decide (0 ≤ (l0.length : Int)) = true := decide_eq_true c2
 clear c2
 replace H := ino H
 obtain ⟨c3, H⟩ := H
 have c3b0 := eq_true c3
 have c3b1 : decide (((l0.length : Int) : Int).toNat ≤ 3909374676536) = true := decide_eq_true c3
 clear c3
 obtain ⟨y783, hy783⟩ : ∃ y_ : List (S86), y_ = (List.replicate ((l0.length : Int) : Int).toNat z86) := ⟨_, rfl⟩
 replace H : (q1g.l0 k l0 y783 0) = some r := by (rw [hy783]; with_reducible exact H)
 have Ny783 := Am hy783
 clear hy783
 have H' := Am H
 clear H
 go_enter Tryz.func62, Tryz.ntmps62
 go_wp2_with (((with_reducible refine gate_dst (N := 7) rfl ?_); refine Kd.S_make k86 _ 86 rfl (N := 7) rfl 25 _ _ rfl (l0.length : Int) rfl rfl Tryz.underlying25 (.agg #[(.int .i64 0), (.int .i64 0), (.int .i64 0), (.slice none 0 0), (.slice none 0 0)]) 72 info86 rfl (by decide) (by omega) z86 (ok := fun _ => True) (okp := fun _ => True) (k86_mkM _ _ _ z86 (Kd.R_nil _ _ _ _ _) (Kd.R_nil _ _ _ _ _)) (fun _ hk => hk) trivial (od (by assumption)) (Nat.le_trans (Nat.mul_le_mul_right _ (od (by assumption) : (l0.length : Int).toNat ≤ 3909374676536)) (by omega)) (Below.refl _ _) (Nat.le_refl _) ?_; intro v784 w4 ho5 hb hg_ hnew_; clear hg_ hnew_; (rw [← Ny783.out] at ho5); have HO785 := Am (Kd.S_lower ho5 (below_size HB.out)); replace HB := Am (below_step HB.out hb); clear hb ho5))
 go_loopg [4] k (fun kq v4 w' => ∃ (x3_1 : List (S86)) (x4_1 : Int), v4 = .int .i64 x4_1 ∧ Aside0 (q1g.l0 kq l0 x3_1 x4_1 = some r) ∧ Aside0 (kq ≤ k) ∧ Aside0 (Kd.S k86 86 w' w.heap.size (fun _ => True) v784 x3_1) ∧ Aside0 (Below w.heap.size w w'))
 case atStart => exact ⟨(y783), (0), (by rfl), H', ⟨Nat.le_refl _⟩, ⟨by exact HO785.out⟩, ⟨HB.out⟩⟩
 case round =>
  clear H'
  try clear c2b0
  try clear c2b1
  try clear c3b0
  try clear c3b1
  obtain ⟨x3_1, x4_1, rfl, HA, HK1, HO_3, HB⟩ := hrel
  cases gk with
  | zero => exact absurd HA.out (by simp [q1g.l0])
  | succ k1 =>
   have H := HA.out
   clear HA
   simp only [q1g.l0] at H
   by_cases c6 : x4_1 < (l0.length : Int)
   ·rw [if_pos c6] at H
    have c6b0 : decide (x4_1 < (l0.length : Int)) = true := decide_eq_true c6
    clear c6
    replace H := ino H
    obtain ⟨c7, H⟩ := H
    have c7b0 : decide (0 ≤ x4_1) = true := decide_eq_true c7
    clear c7
    replace H := Option.bind_eq_some_iff.mp H
    obtain ⟨⟨t787, t788, t789, t790, t793⟩, A80, H⟩ := H
    replace H : (if x4_1 < (x3_1.length : Int) then (q1g.l0 k1 l0 (x3_1.set (x4_1 : Int).toNat (⟨t787, t788, t789, t790, t793⟩ : S86)) (wrap64 (x4_1 + 1))) else (none)) = some r := H
    have A8 := Am A80
    clear A80
    replace H := ino H
    obtain ⟨c9, H⟩ := H
    have c9b0 : decide (x4_1 < (x3_1.length : Int)) = true := decide_eq_true c9
    clear c9
    obtain ⟨y796, hy796⟩ : ∃ y_ : List (S86), y_ = (x3_1.set (x4_1 : Int).toNat (⟨t787, t788, t789, t790, t793⟩ : S86)) := ⟨_, rfl⟩
    replace H : (q1g.l0 k1 l0 y796 (wrap64 (x4_1 + 1))) = some r := by (rw [hy796]; with_reducible exact H)
    have Ny796 := Am hy796
    clear hy796
    have H' := Am H
    clear H
    have p786 : 0 ≤ (x4_1 : Int) := od (by assumption)
    have q786 : x4_1 < (l0.length : Int) := od (by assumption)
    obtain ⟨ad786, A786_3, c786_3, A786_4, c786_4, e786, hx786_0, hx786_1, hx786_2, hx786_3, hx786_4, hl786_3, hi786_3, hl786_4, hi786_4⟩ := at_T159 HR0.out x4_1 p786 q786
    cases e786
    replace hx786_0 := pcb HB.out hx786_0
    replace hx786_1 := pcb HB.out hx786_1
    replace hx786_2 := pcb HB.out hx786_2
    replace hx786_3 := pcb HB.out hx786_3
    replace hx786_4 := pcb HB.out hx786_4
    have HR786_3 := Am hi786_3
    have HC786_3 := Am hl786_3
    clear hi786_3 hl786_3
    have HR786_4 := Am hi786_4
    have HC786_4 := Am hl786_4
    clear hi786_4 hl786_4
    replace p786 := eq_true p786
    replace q786 := eq_true q786
    go_wp2_with (first | ((with_reducible refine gate_callee (f := 130) rfl ?_); refine goesL_ (some 20) rfl rfl Tryz.func130 (by kernel_rfl) rfl #[.agg #[.int .i64 ((rd_T159 l0 x4_1).f0), .int .i64 ((rd_T159 l0 x4_1).f1), .int .i64 ((rd_T159 l0 x4_1).f2), .slice A786_3 ((rd_T159 l0 x4_1).f3).length c786_3, .slice A786_4 ((rd_T159 l0 x4_1).f4).length c786_4]] rfl (by (try simp only [List.map_toArray, List.map_cons, List.map_nil]); rfl) ?_; (with_reducible refine (q1f.calls k1 ((rd_T159 l0 x4_1).f0) ((rd_T159 l0 x4_1).f1) ((rd_T159 l0 x4_1).f2) _ _ ((rd_T159 l0 x4_1).f3) _ _ ((rd_T159 l0 x4_1).f4) t787 t788 t789 t790 t793 _ ?side1 ?side2 ?side3 ?side4 A8.out).mono ?_); (case side1 => repeat (exact (Kd.C_below HR786_3.out HB.out))); (case side2 => exact HC786_3.out); (case side3 => repeat (exact (Kd.C_below HR786_4.out HB.out))); (case side4 => exact HC786_4.out); rintro e w11 ⟨v791, v794, rfl, ho0, ho1, hb⟩; refine ⟨_, rfl, ?_⟩; replace HO_3 := Am (Kd.S_mono (Kd.S_told (Kd.S_told (Kd.S_old HO_3.out hb) (Kd.R_base ho0)) (Kd.R_base ho1)) (fun _ h_ => h_.1)); have HO792 := Am (Kd.R_lower ho0 (below_size HB.out)); have HO795 := Am (Kd.R_lower ho1 (below_size HB.out)); replace HB := Am (below_step HB.out hb); (try clear hb); (try clear ho0); (try clear ho1); have p10 : 0 ≤ (x4_1 : Int) := od (by assumption); have q10 : (x4_1 : Int) < ((x3_1.length : Int) : Int) := od (by assumption); obtain ⟨go10, co10, eo10, gb10, gl10, cl10, HG10⟩ := Kd.S_form HO_3.out (by omega); (cases eo10); have GB10 := Am gb10; have GG10 := Am HG10; clear gb10 gl10 HG10; obtain ⟨_, ce10, hcl10, hM10, hcc10, hfr10, _, _⟩ := Kd.S_elem HO_3.out z86 (x4_1 : Int) p10 q10; obtain ⟨ve10_3, ve10_4, rfl, ge10_3, ge10_4⟩ := k86_openM hM10; have hx10_0 : w11.cell? ⟨go10, (x4_1 : Int).toNat * 5, none⟩ = some (.int .i64 ((rd_T86 x3_1 x4_1).f0)) := hcc10 0 _ rfl; have hx10_1 : w11.cell? ⟨go10, (x4_1 : Int).toNat * 5 + 1, none⟩ = some (.int .i64 ((rd_T86 x3_1 x4_1).f1)) := hcc10 1 _ rfl; have hx10_2 : w11.cell? ⟨go10, (x4_1 : Int).toNat * 5 + 2, none⟩ = some (.int .i64 ((rd_T86 x3_1 x4_1).f2)) := hcc10 2 _ rfl; have hx10_3 : w11.cell? ⟨go10, (x4_1 : Int).toNat * 5 + 3, none⟩ = some (ve10_3) := hcc10 3 _ rfl; have hx10_4 : w11.cell? ⟨go10, (x4_1 : Int).toNat * 5 + 4, none⟩ = some (ve10_4) := hcc10 4 _ rfl; have hf10_0 : w11.frozen? ⟨go10, (x4_1 : Int).toNat * 5, none⟩ = false := hfr10 0; have hf10_1 : w11.frozen? ⟨go10, (x4_1 : Int).toNat * 5 + 1, none⟩ = false := hfr10 1; have hf10_2 : w11.frozen? ⟨go10, (x4_1 : Int).toNat * 5 + 2, none⟩ = false := hfr10 2; have hf10_3 : w11.frozen? ⟨go10, (x4_1 : Int).toNat * 5 + 3, none⟩ = false := hfr10 3; have hf10_4 : w11.frozen? ⟨go10, (x4_1 : Int).toNat * 5 + 4, none⟩ = false := hfr10 4; clear hcl10 hcc10 hfr10; (try clear hM10); replace p10 := eq_true p10; replace q10 := eq_true q10; have n_ := Am (Kd.S_mono (ok' := (fun k_ => some k_ ≠ (v791 : Value).ownBlock ∧ some k_ ≠ (v794 : Value).ownBlock)) HO_3.out (fun k_ hk => ⟨hk.1.2, hk.2⟩)); clear HO_3; have HO_3 := n_; clear n_; have HX12 := Am (show Kd.S k86 86 w11 w.heap.size (fun k_ => ((fun _ => True)) k_ ∧ ¬ ((fun k_ => some k_ = (v791 : Value).ownBlock ∨ some k_ = (v794 : Value).ownBlock)) k_) (.slice (some ⟨go10, 0, none⟩) x3_1.length co10) x3_1 from (by exact Kd.S_mono HO_3.out (fun k_ hk => ⟨trivial, fun e_ => e_.elim (fun h_ => hk.1 h_) (fun h_ => hk.2 h_)⟩))); obtain ⟨oki12, ce12, hcl12, hM12, hcc12, hfr12, hoki12, hH12⟩ := Kd.S_elem HX12.out z86 (x4_1 : Int) (od (by assumption)) (by have h_ : (x4_1 : Int) < ((x3_1.length : Int) : Int) := od (by assumption); exact h_); obtain ⟨ve12_3, ve12_4, rfl, ge12_3, ge12_4⟩ := k86_openM hM12; have HP12 := Kd.S_seg hH12 (od (by assumption)) (by have h_ : (x4_1 : Int) < ((x3_1.length : Int) : Int) := od (by assumption); exact h_) (seg := [.int .i64 t787, .int .i64 t788, .int .i64 t789, v791, v794]) (j := 0) (show 5 ≤ 5 from by decide) (x' := (⟨t787, t788, t789, t790, t793⟩ : S86)) (k86_mkM _ _ _ (⟨t787, t788, t789, t790, t793⟩ : S86) (Kd.R_mono (Kd.R_tight rfl (Kd.R_mono (ok' := fun k_ => ((fun _ => True)) k_ ∧ k_ ≠ go10) (Kd.R_apart' (HO792.out) (Kd.S_typed HO_3.out) (by decide)) (fun k_ hk => ⟨trivial, fun e_ => (hk.2) (by rw [e_]; rfl)⟩))) (fun _ h_ => Or.inr (Or.inl h_))) (Kd.R_mono (Kd.R_tight rfl (Kd.R_mono (ok' := fun k_ => ((fun _ => True)) k_ ∧ k_ ≠ go10) (Kd.R_apart' (HO795.out) (Kd.S_typed HO_3.out) (by decide)) (fun k_ hk => ⟨trivial, fun e_ => (hk.2) (by rw [e_]; rfl)⟩))) (fun _ h_ => Or.inr (Or.inr (h_))))) (fun _ hk => hk) (fun k_ hk_ => hk_.elim (fun h_ => ((Kd.R_mono (ok' := fun k_ => ((fun _ => True)) k_ ∧ k_ ≠ go10) (Kd.R_apart' (HO792.out) (Kd.S_typed HO_3.out) (by decide)) (fun k_ hk => ⟨trivial, fun e_ => (hk.2) (by rw [e_]; rfl)⟩))).1 k_ h_.symm) (fun h_ => ((Kd.R_mono (ok' := fun k_ => ((fun _ => True)) k_ ∧ k_ ≠ go10) (Kd.R_apart' (HO795.out) (Kd.S_typed HO_3.out) (by decide)) (fun k_ hk => ⟨trivial, fun e_ => (hk.2) (by rw [e_]; rfl)⟩))).1 k_ h_.symm)); have hx12_0 := hcc12 0 _ rfl; (try simp only [show (k86).sz = 5 from rfl, Nat.mul_one, Nat.add_zero] at hx12_0); have hf12_0 := hfr12 0; (try simp only [show (k86).sz = 5 from rfl, Nat.mul_one, Nat.add_zero] at hf12_0); have hx12_1 := hcc12 1 _ rfl; (try simp only [show (k86).sz = 5 from rfl, Nat.mul_one, Nat.add_zero] at hx12_1); have hf12_1 := hfr12 1; (try simp only [show (k86).sz = 5 from rfl, Nat.mul_one, Nat.add_zero] at hf12_1); have hx12_2 := hcc12 2 _ rfl; (try simp only [show (k86).sz = 5 from rfl, Nat.mul_one, Nat.add_zero] at hx12_2); have hf12_2 := hfr12 2; (try simp only [show (k86).sz = 5 from rfl, Nat.mul_one, Nat.add_zero] at hf12_2); have hx12_3 := hcc12 3 _ rfl; (try simp only [show (k86).sz = 5 from rfl, Nat.mul_one, Nat.add_zero] at hx12_3); have hf12_3 := hfr12 3; (try simp only [show (k86).sz = 5 from rfl, Nat.mul_one, Nat.add_zero] at hf12_3); have hx12_4 := hcc12 4 _ rfl; (try simp only [show (k86).sz = 5 from rfl, Nat.mul_one, Nat.add_zero] at hx12_4); have hf12_4 := hfr12 4; (try simp only [show (k86).sz = 5 from rfl, Nat.mul_one, Nat.add_zero] at hf12_4); clear hcl12 hcc12 hfr12 hoki12 hH12; (try clear hM12)) | ((with_reducible refine gate_store (t := 86) (p := 21) rfl ?_); refine store_event (t := 86) (p := 21) (v := ?vo_w13) (w1 := (((((w11.setCell ⟨go10, (x4_1 : Int).toNat * 5, none⟩ (.int .i64 t787)).setCell ⟨go10, (x4_1 : Int).toNat * 5 + 1, none⟩ (.int .i64 t788)).setCell ⟨go10, (x4_1 : Int).toNat * 5 + 2, none⟩ (.int .i64 t789)).setCell ⟨go10, (x4_1 : Int).toNat * 5 + 3, none⟩ (v791)).setCell ⟨go10, (x4_1 : Int).toNat * 5 + 4, none⟩ (v794))) ?hg ?ho ?hn ?hr ?_; (case ho => rfl); (case hg => rfl); (case hn => rfl); (case hr => (obtain ⟨Ao791_, co791_, eo791_⟩ := Kd.R_slice HO792.out; obtain ⟨Ao794_, co794_, eo794_⟩ := Kd.R_slice HO795.out; go_simp; done)); intro w13 hw; have hg : w11.grownBy w13 (some go10) := (by rw [hw]; exact HP12.2); have hp_ : Kd.S k86 86 w13 w.heap.size (fun _ => True) (.slice (some ⟨go10, 0, none⟩) x3_1.length co10) y796 := (by rw [hw, Ny796.out]; exact HP12.1); clear HP12; replace HO_3 := Am hp_; replace HB := Am ((by rw [hw]; exact below_set (below_set (below_set (below_set (below_set (HB.out) GB10.out) GB10.out) GB10.out) GB10.out) GB10.out : Below w.heap.size w w13)); clear HO792 HO795; clear hg hw hp_))
    go_roundg k1
    case measure => have := HK1.out; omega
    case rel => exact ⟨(y796), (wrap64 (x4_1 + 1)), (by rfl), H', ⟨by have := HK1.out; omega⟩, ⟨by exact HO_3.out⟩, ⟨HB.out⟩⟩
   ·rw [if_neg c6] at H
    have c6b0 : decide (x4_1 < (l0.length : Int)) = false := decide_eq_false c6
    clear c6
    obtain rfl := Option.some.inj H
    go_wp2
    go_ret
    exact ⟨_, by rfl, by exact HO_3.out, HB.out⟩
def q1e.f (k : Nat) (l0_0 : List (S159)) (l0_1 : List (List Int)) : Option ((List (S86)) × (List (List Int))) := (q1g.f k l0_0).bind fun t813 => ((q1b.f k l0_1).bind fun t816 => (some (t813, t816)))
theorem q1e.mono : ∀ a0 a1 k, LeO (q1e.f k a0 a1) (q1e.f (k + 1) a0 a1) := by
 intro a0 a1 k
 unfold q1e.f
 repeat' first | (with_reducible exact q1b.mono _ _) | (with_reducible exact q1g.mono _ _) | (with_reducible exact LeO.refl _) | (with_reducible refine LeO.bind ?_ (fun _ => ?_))
set_option maxHeartbeats 8000000 in
set_option maxRecDepth 100000 in
theorem q1e.calls (k : Nat) (A0_0 : Option Addr) (c0_0 : Nat) (l0_0 : List (S159)) (A0_1 : Option Addr) (c0_1 : Nat) (l0_1 : List (List Int)) (r1 : List (S86)) (r2 : List (List Int)) (w : World) (hr0_0 : Kd.C k159 w A0_0 l0_0.length l0_0) (hc0_0 : l0_0.length ≤ c0_0) (hr0_1 : Kd.C (Kd.slice 5 (Kd.int .u8)) w A0_1 l0_1.length l0_1) (hc0_1 : l0_1.length ≤ c0_1) (h : q1e.f k l0_0 l0_1 = some (r1, r2)) :
  Calls Tryz.prog 19 #[.agg #[.slice A0_0 l0_0.length c0_0, .slice A0_1 l0_1.length c0_1]] w fun e w' => ∃ v0_ v1_ : Value, e = .returned (.agg #[v0_, v1_]) ∧ Kd.S k86 86 w' w.heap.size (fun _ => True) v0_ r1 ∧ Kd.S (Kd.slice 5 (Kd.int .u8)) 22 w' w.heap.size (fun _ => True) v1_ r2 ∧ Below w.heap.size w w' := by
 have hu45 := Tryz.underlying45
 have hu28 := Tryz.underlying28
 have HR0_0 := Am hr0_0
 have HC0_0 := Am hc0_0
 clear hr0_0 hc0_0
 have HR0_1 := Am hr0_1
 have HC0_1 := Am hc0_1
 clear hr0_1 hc0_1
 have HB := Am (Below.refl w.heap.size w)
 have H : ((q1g.f k l0_0).bind fun t813 => ((q1b.f k l0_1).bind fun t816 => (some (t813, t816)))) = some (r1, r2) := h
 clear h
 replace H := zbs H
 obtain ⟨t813, A2, H⟩ := H
 replace H := zbs H
 obtain ⟨t816, A3, H⟩ := H
 simp only [Option.some.injEq, Prod.mk.injEq] at H
 obtain ⟨rfl, rfl⟩ := H
 go_enter Tryz.func19, Tryz.ntmps19
 go_wp2_with (first | ((with_reducible refine gate_dst (N := 1) rfl ?_); refine box_event ?hg (N := 1) ?hd (cs := #[.slice A0_0 l0_0.length c0_0, .slice A0_1 l0_1.length c0_1]) (t := 45) ?hr ?_; (case hd => rfl); (case hg => rfl); (case hr => (go_simp; done)); intro gb810 hg w4 hbox hb; have BK810 := Am hbox; have GW810 := Am ((nge hg HB.out)); have GE810 := Am ((nge hg HB.out)); replace HB := Am (below_step HB.out hb); clear hb hbox hg) | ((with_reducible refine gate_dst (N := 2) rfl ?_); refine box_event ?hg (N := 2) ?hd (cs := #[.slice none 0 0, .slice none 0 0]) (t := 28) ?hr ?_; (case hd => rfl); (case hg => rfl); (case hr => (go_simp; done)); intro gb811 hg w5 hbox hb; have BK811 := Am hbox; have GW811 := Am ((nge hg HB.out)); have GE811 := Am ((nge hg HB.out)); replace HB := Am (below_step HB.out hb); have NB810_811 := Am ((nlt hg (g := gb810) (o := .cells #[.slice A0_0 l0_0.length c0_0, .slice A0_1 l0_1.length c0_1] 45 (0, 0)) BK810.out)); have NB811_810 := Am ((ngt hg (g := gb810) (o := .cells #[.slice A0_0 l0_0.length c0_0, .slice A0_1 l0_1.length c0_1] 45 (0, 0)) BK810.out)); replace BK810 := Am (blk_below (g := gb810) (o := .cells #[.slice A0_0 l0_0.length c0_0, .slice A0_1 l0_1.length c0_1] 45 (0, 0)) BK810.out hb); clear hb hbox hg) | ((with_reducible refine gate_dst (N := 3) rfl ?_); refine box_event ?hg (N := 3) ?hd (cs := #[.slice none 0 0, .slice none 0 0]) (t := 28) ?hr ?_; (case hd => rfl); (case hg => rfl); (case hr => (go_simp; done)); intro gb812 hg w6 hbox hb; have BK812 := Am hbox; have GW812 := Am ((nge hg HB.out)); have GE812 := Am ((nge hg HB.out)); replace HB := Am (below_step HB.out hb); have NB810_812 := Am ((nlt hg (g := gb810) (o := .cells #[.slice A0_0 l0_0.length c0_0, .slice A0_1 l0_1.length c0_1] 45 (0, 0)) BK810.out)); have NB812_810 := Am ((ngt hg (g := gb810) (o := .cells #[.slice A0_0 l0_0.length c0_0, .slice A0_1 l0_1.length c0_1] 45 (0, 0)) BK810.out)); replace BK810 := Am (blk_below (g := gb810) (o := .cells #[.slice A0_0 l0_0.length c0_0, .slice A0_1 l0_1.length c0_1] 45 (0, 0)) BK810.out hb); have NB811_812 := Am ((nlt hg (g := gb811) (o := .cells #[.slice none 0 0, .slice none 0 0] 28 (0, 0)) BK811.out)); have NB812_811 := Am ((ngt hg (g := gb811) (o := .cells #[.slice none 0 0, .slice none 0 0] 28 (0, 0)) BK811.out)); replace BK811 := Am (blk_below (g := gb811) (o := .cells #[.slice none 0 0, .slice none 0 0] 28 (0, 0)) BK811.out hb); clear hb hbox hg; have hnb7 := NB810_811.out; have hnc7 := NB811_810.out; have hnb8 := NB810_812.out; have hnc8 := NB812_810.out; obtain ⟨hcz9_0, hcz9_1, hfz9_0, hfz9_1⟩ := cb2 BK810.out) | ((with_reducible refine gate_callee (f := 62) rfl ?_); refine goesL_ (some 6) rfl rfl Tryz.func62 (by kernel_rfl) rfl #[.slice A0_0 l0_0.length c0_0] rfl (by (try simp only [List.map_toArray, List.map_cons, List.map_nil]); rfl) ?_; (with_reducible refine (q1g.calls k _ _ l0_0 t813 _ ?side1 ?side2 A2.out).mono ?_); (case side1 => repeat (exact (Kd.C_below HR0_0.out HB.out))); (case side2 => exact HC0_0.out); rintro e w10 ⟨v814, rfl, ho0, hb⟩; refine ⟨_, rfl, ?_⟩; have HO815 := Am (Kd.S_lower ho0 (below_size HB.out)); replace BK810 := Am (blk_below (g := gb810) (o := .cells #[.slice A0_0 l0_0.length c0_0, .slice A0_1 l0_1.length c0_1] 45 (0, 0)) BK810.out hb); replace BK811 := Am (blk_below (g := gb811) (o := .cells #[.slice none 0 0, .slice none 0 0] 28 (0, 0)) BK811.out hb); replace BK812 := Am (blk_below (g := gb812) (o := .cells #[.slice none 0 0, .slice none 0 0] 28 (0, 0)) BK812.out hb); replace HB := Am (below_step HB.out hb); (try clear hb); (try clear ho0); obtain ⟨Ao11, co11, eo11⟩ := Kd.S_slice HO815.out; subst eo11; have hnb12 := NB812_811.out; have hnc12 := NB811_812.out; obtain ⟨hcz13_0, hcz13_1, hfz13_0, hfz13_1⟩ := cb2 BK812.out; obtain ⟨hcz14_0, hcz14_1, hfz14_0, hfz14_1⟩ := cb2 BK810.out) | ((with_reducible refine gate_callee (f := 63) rfl ?_); refine goesL_ (some 10) rfl rfl Tryz.func63 (by kernel_rfl) rfl #[.slice A0_1 l0_1.length c0_1] rfl (by (try simp only [List.map_toArray, List.map_cons, List.map_nil]); rfl) ?_; (with_reducible refine (q1b.calls k _ _ l0_1 t816 _ ?side1 ?side2 A3.out).mono ?_); (case side1 => exact Kd.C_below HR0_1.out (by repeat ((with_reducible first | exact HB.out | refine below_set ?_ GE812.out)))); (case side2 => exact HC0_1.out); rintro e w15 ⟨v817, rfl, ho0, hb⟩; refine ⟨_, rfl, ?_⟩; replace HO815 := Am (Kd.S_below (by exact (Kd.S_mono (Kd.S_far (p := ⟨gb812, 0, none⟩) (Kd.S_types HO815.out BK812.out (by decide)) (fun _ hk => hk.2) (.slice Ao11 t813.length co11)) (fun _ h_ => h_.1))) hb); have HO818 := Am (Kd.S_lower ho0 (below_size (by repeat ((with_reducible first | exact HB.out | refine below_set ?_ GE812.out))))); replace BK810 := Am (blk_below (g := gb810) (o := .cells #[.slice A0_0 l0_0.length c0_0, .slice A0_1 l0_1.length c0_1] 45 (0, 0)) (by refine blk_far ?_ NB810_812.out _; exact BK810.out) hb); replace BK811 := Am (blk_below (g := gb811) (o := .cells #[.slice none 0 0, .slice none 0 0] 28 (0, 0)) (by refine blk_far ?_ NB811_812.out _; exact BK811.out) hb); replace BK812 := Am (blk_below (g := gb812) (o := .cells #[.slice Ao11 t813.length co11, .slice none 0 0] 28 (0, 0)) (by refine blk_put (cs := #[.slice none 0 0, .slice none 0 0]) ?_ 0 _ rfl; exact BK812.out) hb); replace HB := Am (below_step (by repeat ((with_reducible first | exact HB.out | refine below_set ?_ GE812.out))) hb); (try clear hb); (try clear ho0); obtain ⟨Ao16, co16, eo16⟩ := Kd.S_slice HO818.out; subst eo16; obtain ⟨hcz17_0, hcz17_1, hfz17_0, hfz17_1⟩ := cb2 BK812.out; obtain ⟨hcz18_0, hcz18_1, hfz18_0, hfz18_1⟩ := cb2 BK811.out))
 refine bodyPost_ret (results_cell_row rfl _ _ gb811 28 #[.slice Ao11 t813.length co11, .slice Ao16 t816.length co16] (0, 0) _ rfl (by refine blk_put (cs := #[.slice Ao11 t813.length co11, .slice none 0 0]) ?_ 1 _ rfl; refine blk_put (cs := #[.slice none 0 0, .slice none 0 0]) ?_ 0 _ rfl; refine blk_far ?_ NB811_812.out _; exact BK811.out) Tryz.underlying28 rfl (by kernel_rfl)) rfl ?_
 exact ⟨_, _, by rfl, by exact Kd.S_mono (Kd.S_far (p := ⟨gb811, 1, none⟩) (Kd.S_far (p := ⟨gb811, 0, none⟩) (Kd.S_far (p := ⟨gb812, 1, none⟩) (Kd.S_types (Kd.S_types HO815.out BK812.out (by decide)) BK811.out (by decide)) (fun _ hk => hk.1.2) (.slice Ao16 t816.length co16)) (fun _ hk => hk.2) (.slice Ao11 t813.length co11)) (fun _ hk => hk.2) (.slice Ao16 t816.length co16)) (fun _ hk => trivial), by exact Kd.S_mono (Kd.S_far (p := ⟨gb811, 1, none⟩) (Kd.S_far (p := ⟨gb811, 0, none⟩) (Kd.S_far (p := ⟨gb812, 1, none⟩) (Kd.S_types (Kd.S_types HO818.out BK812.out (by decide)) BK811.out (by decide)) (fun _ hk => hk.1.2) (.slice Ao16 t816.length co16)) (fun _ hk => hk.2) (.slice Ao11 t813.length co11)) (fun _ hk => hk.2) (.slice Ao16 t816.length co16)) (fun _ hk => trivial), by repeat ((with_reducible first | exact HB.out | refine below_set ?_ GE811.out | refine below_set ?_ GE812.out))⟩
def qt.l0 : Nat → List Int → List Int → Int → Option (Bool)
 | 0, _, _, _ => none
 | k + 1, x0, x1, x5 => if x5 < (x0.length : Int) then (if 0 ≤ x5 then (if x5 < (x1.length : Int) then (if (rd x0 x5) = (rd x1 x5) then (qt.l0 k x0 x1 (wrap64 (x5 + 1))) else (some false)) else (none)) else (none)) else (some true)
def qt.f (k : Nat) (l0 : List Int) (l1 : List Int) : Option (Bool) := if (l0.length : Int) = (l1.length : Int) then (qt.l0 k l0 l1 0) else (some false)
theorem qt.mono_l : ∀ k, (∀ y0 y1 y2, LeO (qt.l0 k y0 y1 y2) (qt.l0 (k + 1) y0 y1 y2))
 | 0 => fun _ _ _ r h => by simp [qt.l0] at h
 | k + 1 => by
  have ih0 := qt.mono_l k
  ·intro y0 y1 y2
   unfold qt.l0
   repeat' first | (with_reducible exact ih0 _ _ _) | (with_reducible exact LeO.refl _) | (with_reducible refine LeO.ite ?_ ?_)
theorem qt.mono : ∀ a0 a1 k, LeO (qt.f k a0 a1) (qt.f (k + 1) a0 a1) := by
 intro a0 a1 k
 have ih0 := qt.mono_l k
 unfold qt.f
 repeat' first | (with_reducible exact ih0 _ _ _) | (with_reducible exact LeO.refl _) | (with_reducible refine LeO.ite ?_ ?_)
set_option maxHeartbeats 8000000 in
set_option maxRecDepth 100000 in
theorem qt.calls (k : Nat) (A0 : Option Addr) (c0 : Nat) (l0 : List Int) (A1 : Option Addr) (c1 : Nat) (l1 : List Int) (r : Bool) (w : World) (hr0 : Kd.C (Kd.int .u8) w A0 l0.length l0) (hc0 : l0.length ≤ c0) (hr1 : Kd.C (Kd.int .u8) w A1 l1.length l1) (hc1 : l1.length ≤ c1) (h : qt.f k l0 l1 = some true) :
  Calls Tryz.prog 97 #[.slice A0 l0.length c0, .slice A1 l1.length c1] w fun e w' => e = .returned (.bool true) ∧ Drawn0 w w' := by
 have HR0 := Am hr0
 have HC0 := Am hc0
 clear hr0 hc0
 have HR1 := Am hr1
 have HC1 := Am hc1
 clear hr1 hc1
 have H : (if (l0.length : Int) = (l1.length : Int) then (qt.l0 k l0 l1 0) else (some false)) = some true := h
 clear h
 by_cases c3 : (l0.length : Int) = (l1.length : Int)
 ·rw [if_pos c3] at H
  have c3b0 : ((l0.length : Int) == (l1.length : Int)) = true := beq_iff_eq.mpr c3
  have c3b1 : ((l0.length : Int) != (l1.length : Int)) = false := bne_eq_false_iff_eq.mpr c3
  have c3b2 : (l0.length == l1.length) = true := by (simp at c3 ⊢; omega)
  clear c3
  have H' := Am H
  clear H
  go_enter Tryz.func97, Tryz.ntmps97
  go_wp2
  repeat (go_quiet (fail))
  go_loopg [5] k (fun kq v5 w' => ∃ (x5_1 : Int), v5 = .int .i64 x5_1 ∧ Aside0 (qt.l0 kq l0 l1 x5_1 = some true) ∧ Aside0 (kq ≤ k) ∧ Drawn0 w w')
  case atStart => exact ⟨(0), (by rfl), H', ⟨Nat.le_refl _⟩, by repeat (exact Drawn0.refl _)⟩
  case round =>
   clear H'
   try clear c3b0
   try clear c3b1
   try clear c3b2
   obtain ⟨x5_1, rfl, HA, HK1, ⟨m1, rfl⟩⟩ := hrel
   cases gk with
   | zero => exact absurd HA.out (by simp [qt.l0])
   | succ k1 =>
    have H := HA.out
    clear HA
    simp only [qt.l0] at H
    by_cases c4 : x5_1 < (l0.length : Int)
    ·rw [if_pos c4] at H
     have c4b0 : decide (x5_1 < (l0.length : Int)) = true := decide_eq_true c4
     clear c4
     replace H := ino H
     obtain ⟨c5, H⟩ := H
     have c5b0 : decide (0 ≤ x5_1) = true := decide_eq_true c5
     clear c5
     replace H := ino H
     obtain ⟨c6, H⟩ := H
     have c6b0 : decide (x5_1 < (l1.length : Int)) = true := decide_eq_true c6
     clear c6
     by_cases c7 : (rd l0 x5_1) = (rd l1 x5_1)
     ·rw [if_pos c7] at H
      have c7b0 : ((rd l0 x5_1) == (rd l1 x5_1)) = true := beq_iff_eq.mpr c7
      have c7b1 : ((rd l0 x5_1) != (rd l1 x5_1)) = false := bne_eq_false_iff_eq.mpr c7
      clear c7
      have H' := Am H
      clear H
      have p849 : 0 ≤ (x5_1 : Int) := od (by assumption)
      have q849 : x5_1 < (l0.length : Int) := od (by assumption)
      obtain ⟨ad849, e849, hx849_0⟩ := Kd.at_int HR0.out x5_1 p849 q849
      cases e849
      replace p849 := eq_true p849
      replace q849 := eq_true q849
      have p850 : 0 ≤ (x5_1 : Int) := od (by assumption)
      have q850 : x5_1 < (l1.length : Int) := od (by assumption)
      obtain ⟨ad850, e850, hx850_0⟩ := Kd.at_int HR1.out x5_1 p850 q850
      cases e850
      replace p850 := eq_true p850
      replace q850 := eq_true q850
      go_wp2
      repeat (go_quiet (fail); try go_wp2)
      go_roundg k1
      case measure => have := HK1.out; omega
      case rel => exact ⟨(wrap64 (x5_1 + 1)), (by rfl), H', ⟨by have := HK1.out; omega⟩, by repeat (first | exact Drawn0.refl _ | apply Drawn0.step)⟩
     ·rw [if_neg c7] at H
      have c7b0 : ((rd l0 x5_1) == (rd l1 x5_1)) = false := beq_eq_false_iff_ne.mpr c7
      have c7b1 : ((rd l0 x5_1) != (rd l1 x5_1)) = true := bne_iff_ne.mpr c7
      exact absurd (Option.some.inj H) (by decide)
    ·rw [if_neg c4] at H
     have c4b0 : decide (x5_1 < (l0.length : Int)) = false := decide_eq_false c4
     clear c4 H
     go_wp2
     repeat (go_quiet (fail))
     go_ret
     exact ⟨by rfl, by repeat (first | exact Drawn0.refl _ | apply Drawn0.step)⟩
 ·rw [if_neg c3] at H
  have c3b0 : ((l0.length : Int) == (l1.length : Int)) = false := beq_eq_false_iff_ne.mpr c3
  have c3b1 : ((l0.length : Int) != (l1.length : Int)) = true := bne_iff_ne.mpr c3
  have c3b2 : (l0.length == l1.length) = false := by (simp at c3 ⊢; omega)
  exact absurd (Option.some.inj H) (by decide)
def qu.l0 : Nat → List (List Int) → List (List Int) → Int → Option (Bool)
 | 0, _, _, _ => none
 | k + 1, x0, x1, x5 => if x5 < (x0.length : Int) then (if 0 ≤ x5 then (if x5 < (x1.length : Int) then ((qt.f k (rd_L1 x0 x5) (rd_L1 x1 x5)).bind fun t853 => (if t853 = true then (qu.l0 k x0 x1 (wrap64 (x5 + 1))) else (some false))) else (none)) else (none)) else (some true)
def qu.f (k : Nat) (l0 : List (List Int)) (l1 : List (List Int)) : Option (Bool) := if (l0.length : Int) = (l1.length : Int) then (qu.l0 k l0 l1 0) else (some false)
theorem qu.mono_l : ∀ k, (∀ y0 y1 y2, LeO (qu.l0 k y0 y1 y2) (qu.l0 (k + 1) y0 y1 y2))
 | 0 => fun _ _ _ r h => by simp [qu.l0] at h
 | k + 1 => by
  have ih0 := qu.mono_l k
  ·intro y0 y1 y2
   unfold qu.l0
   repeat' first | (with_reducible exact ih0 _ _ _) | (with_reducible exact qt.mono _ _ _) | (with_reducible exact LeO.refl _) | (with_reducible refine LeO.ite ?_ ?_) | (with_reducible refine LeO.bind ?_ (fun _ => ?_))
theorem qu.mono : ∀ a0 a1 k, LeO (qu.f k a0 a1) (qu.f (k + 1) a0 a1) := by
 intro a0 a1 k
 have ih0 := qu.mono_l k
 unfold qu.f
 repeat' first | (with_reducible exact ih0 _ _ _) | (with_reducible exact LeO.refl _) | (with_reducible refine LeO.ite ?_ ?_)
set_option maxHeartbeats 8000000 in
set_option maxRecDepth 100000 in
theorem qu.calls (k : Nat) (A0 : Option Addr) (c0 : Nat) (l0 : List (List Int)) (A1 : Option Addr) (c1 : Nat) (l1 : List (List Int)) (r : Bool) (w : World) (hr0 : Kd.C (Kd.slice 5 (Kd.int .u8)) w A0 l0.length l0) (hc0 : l0.length ≤ c0) (hr1 : Kd.C (Kd.slice 5 (Kd.int .u8)) w A1 l1.length l1) (hc1 : l1.length ≤ c1) (h : qu.f k l0 l1 = some true) :
  Calls Tryz.prog 66 #[.slice A0 l0.length c0, .slice A1 l1.length c1] w fun e w' => e = .returned (.bool true) ∧ Drawn0 w w' := by
 have HR0 := Am hr0
 have HC0 := Am hc0
 clear hr0 hc0
 have HR1 := Am hr1
 have HC1 := Am hc1
 clear hr1 hc1
 have H : (if (l0.length : Int) = (l1.length : Int) then (qu.l0 k l0 l1 0) else (some false)) = some true := h
 clear h
 by_cases c3 : (l0.length : Int) = (l1.length : Int)
 ·rw [if_pos c3] at H
  have c3b0 : ((l0.length : Int) == (l1.length : Int)) = true := beq_iff_eq.mpr c3
  have c3b1 : ((l0.length : Int) != (l1.length : Int)) = false := bne_eq_false_iff_eq.mpr c3
  have c3b2 : (l0.length == l1.length) = true := by (simp at c3 ⊢; omega)
  clear c3
  have H' := Am H
  clear H
  go_enter Tryz.func66, Tryz.ntmps66
  go_wp2
  repeat (go_quiet (fail))
  go_loopg [5] k (fun kq v5 w' => ∃ (x5_1 : Int), v5 = .int .i64 x5_1 ∧ Aside0 (qu.l0 kq l0 l1 x5_1 = some true) ∧ Aside0 (kq ≤ k) ∧ Drawn0 w w')
  case atStart => exact ⟨(0), (by rfl), H', ⟨Nat.le_refl _⟩, by repeat (exact Drawn0.refl _)⟩
  case round =>
   clear H'
   try clear c3b0
   try clear c3b1
   try clear c3b2
   obtain ⟨x5_1, rfl, HA, HK1, ⟨m1, rfl⟩⟩ := hrel
   cases gk with
   | zero => exact absurd HA.out (by simp [qu.l0])
   | succ k1 =>
    have H := HA.out
    clear HA
    simp only [qu.l0] at H
    by_cases c4 : x5_1 < (l0.length : Int)
    ·rw [if_pos c4] at H
     have c4b0 : decide (x5_1 < (l0.length : Int)) = true := decide_eq_true c4
     clear c4
     replace H := ino H
     obtain ⟨c5, H⟩ := H
     have c5b0 : decide (0 ≤ x5_1) = true := decide_eq_true c5
     clear c5
     replace H := ino H
     obtain ⟨c6, H⟩ := H
     have c6b0 : decide (x5_1 < (l1.length : Int)) = true := decide_eq_true c6
     clear c6
     replace H := zbs H
     obtain ⟨t853, A7, H⟩ := H
     by_cases c8 : t853 = true
     ·subst c8
      have H1 : (qu.l0 k1 l0 l1 (wrap64 (x5_1 + 1))) = some true := by rw [if_pos rfl] at H; exact H
      clear H
      have H := H1
      clear H1
      have H' := Am H
      clear H
      have p851 : 0 ≤ (x5_1 : Int) := od (by assumption)
      have q851 : x5_1 < (l0.length : Int) := od (by assumption)
      obtain ⟨ad851, A851_0, c851_0, e851, hx851_0, hl851_0, hi851_0⟩ := at_L1 HR0.out x5_1 p851 q851
      cases e851
      have HR851_0 := Am hi851_0
      have HC851_0 := Am hl851_0
      clear hi851_0 hl851_0
      replace p851 := eq_true p851
      replace q851 := eq_true q851
      have p852 : 0 ≤ (x5_1 : Int) := od (by assumption)
      have q852 : x5_1 < (l1.length : Int) := od (by assumption)
      obtain ⟨ad852, A852_0, c852_0, e852, hx852_0, hl852_0, hi852_0⟩ := at_L1 HR1.out x5_1 p852 q852
      cases e852
      have HR852_0 := Am hi852_0
      have HC852_0 := Am hl852_0
      clear hi852_0 hl852_0
      replace p852 := eq_true p852
      replace q852 := eq_true q852
      go_wp2_with (fail)
      repeat (go_quiet (first | (go_at_call 97; (with_reducible refine (qt.calls k1 _ _ (rd_L1 l0 x5_1) _ _ (rd_L1 l1 x5_1) true _ ?side1 ?side2 ?side3 ?side4 A7.out).mono ?_); (case side1 => repeat (first | exact HR851_0.out | (with_reducible refine Kd.C_alloc ?_ _) | (with_reducible refine Kd.C_drewN ?_ _) | (with_reducible refine Kd.C_drew ?_))); (case side2 => exact HC851_0.out); (case side3 => repeat (first | exact HR852_0.out | (with_reducible refine Kd.C_alloc ?_ _) | (with_reducible refine Kd.C_drewN ?_ _) | (with_reducible refine Kd.C_drew ?_))); (case side4 => exact HC852_0.out); rintro e w' ⟨rfl, ⟨nd, rfl⟩⟩; (try first | exact ⟨rfl, _, World.drewN_drewN _ _ _⟩ | exact ⟨rfl, _, Eq.trans (World.drewN_drewN _ _ _) (congrArg (World.drewN _) (Nat.add_assoc _ _ _))⟩))); try go_wp2_with (fail))
      go_roundg k1
      case measure => have := HK1.out; omega
      case rel => exact ⟨(wrap64 (x5_1 + 1)), (by rfl), H', ⟨by have := HK1.out; omega⟩, by repeat (first | exact Drawn0.refl _ | apply Drawn0.step)⟩
     ·replace c8 := Bool.eq_false_iff.mpr c8
      subst c8
      have H1 : (some false) = some true := by rw [if_neg (show ¬ (false = true) by decide)] at H; exact H
      clear H
      have H := H1
      clear H1
      exact absurd (Option.some.inj H) (by decide)
    ·rw [if_neg c4] at H
     have c4b0 : decide (x5_1 < (l0.length : Int)) = false := decide_eq_false c4
     clear c4 H
     go_wp2
     repeat (go_quiet (fail))
     go_ret
     exact ⟨by rfl, by repeat (first | exact Drawn0.refl _ | apply Drawn0.step)⟩
 ·rw [if_neg c3] at H
  have c3b0 : ((l0.length : Int) == (l1.length : Int)) = false := beq_eq_false_iff_ne.mpr c3
  have c3b1 : ((l0.length : Int) != (l1.length : Int)) = true := bne_iff_ne.mpr c3
  have c3b2 : (l0.length == l1.length) = false := by (simp at c3 ⊢; omega)
  exact absurd (Option.some.inj H) (by decide)
def qv.f (a0_0 : ByteArray) (a0_1 : Int) (a1_0 : ByteArray) (a1_1 : Int) : Option (Bool) := if a0_0.toList = a1_0.toList then (if a0_1 = a1_1 then (some true) else (some false)) else (some false)
set_option maxHeartbeats 8000000 in
set_option maxRecDepth 100000 in
theorem qv.calls (a0_0 : ByteArray) (a0_1 : Int) (a1_0 : ByteArray) (a1_1 : Int) (r : Bool) (w : World) (h : qv.f a0_0 a0_1 a1_0 a1_1 = some true) :
  Calls Tryz.prog 248 #[.agg #[.string a0_0, .int .i64 a0_1], .agg #[.string a1_0, .int .i64 a1_1]] w fun e w' => e = .returned (.bool true) ∧ Below w.heap.size w w' := by
 have hu143 := Tryz.underlying143
 have HB := Am (Below.refl w.heap.size w)
 have H : (if a0_0.toList = a1_0.toList then (if a0_1 = a1_1 then (some true) else (some false)) else (some false)) = some true := h
 clear h
 by_cases c3 : a0_0.toList = a1_0.toList
 ·rw [if_pos c3] at H
  have c3b0 : (a0_0.toList == a1_0.toList) = true := beq_iff_eq.mpr c3
  have c3b1 : (a0_0.toList != a1_0.toList) = false := bne_eq_false_iff_eq.mpr c3
  clear c3
  by_cases c4 : a0_1 = a1_1
  ·rw [if_pos c4] at H
   have c4b0 : (a0_1 == a1_1) = true := beq_iff_eq.mpr c4
   have c4b1 : (a0_1 != a1_1) = false := bne_eq_false_iff_eq.mpr c4
   clear c4 H
   go_enter Tryz.func248, Tryz.ntmps248
   go_wp2_with (first | ((with_reducible refine gate_dst (N := 2) rfl ?_); refine box_event ?hg (N := 2) ?hd (cs := #[.string a0_0, .int .i64 a0_1]) (t := 143) ?hr ?_; (case hd => rfl); (case hg => rfl); (case hr => (go_simp; done)); intro gb837 hg w5 hbox hb; have BK837 := Am hbox; have GW837 := Am ((nge hg HB.out)); have GE837 := Am ((nge hg HB.out)); replace HB := Am (below_step HB.out hb); clear hb hbox hg) | ((with_reducible refine gate_dst (N := 3) rfl ?_); refine box_event ?hg (N := 3) ?hd (cs := #[.string a1_0, .int .i64 a1_1]) (t := 143) ?hr ?_; (case hd => rfl); (case hg => rfl); (case hr => (go_simp; done)); intro gb838 hg w6 hbox hb; have BK838 := Am hbox; have GW838 := Am ((nge hg HB.out)); have GE838 := Am ((nge hg HB.out)); replace HB := Am (below_step HB.out hb); have NB837_838 := Am ((nlt hg (g := gb837) (o := .cells #[.string a0_0, .int .i64 a0_1] 143 (0, 0)) BK837.out)); have NB838_837 := Am ((ngt hg (g := gb837) (o := .cells #[.string a0_0, .int .i64 a0_1] 143 (0, 0)) BK837.out)); replace BK837 := Am (blk_below BK837.out hb); clear hb hbox hg; have hnb7 := NB837_838.out; have hnc7 := NB838_837.out; obtain ⟨hcz8_0, hcz8_1, hfz8_0, hfz8_1⟩ := cb2 BK837.out; obtain ⟨hcz9_0, hcz9_1, hfz9_0, hfz9_1⟩ := cb2 BK838.out))
   go_ret
   exact ⟨by rfl, HB.out⟩
  ·rw [if_neg c4] at H
   have c4b0 : (a0_1 == a1_1) = false := beq_eq_false_iff_ne.mpr c4
   have c4b1 : (a0_1 != a1_1) = true := bne_iff_ne.mpr c4
   exact absurd (Option.some.inj H) (by decide)
 ·rw [if_neg c3] at H
  have c3b0 : (a0_0.toList == a1_0.toList) = false := beq_eq_false_iff_ne.mpr c3
  have c3b1 : (a0_0.toList != a1_0.toList) = true := bne_iff_ne.mpr c3
  exact absurd (Option.some.inj H) (by decide)
def qw.l0 : Nat → List (S143) → List (S143) → Int → Option (Bool)
 | 0, _, _, _ => none
 | k + 1, x0, x1, x5 => if x5 < (x0.length : Int) then (if 0 ≤ x5 then (if x5 < (x1.length : Int) then ((qv.f ((rd_T143 x0 x5).f0) ((rd_T143 x0 x5).f1) ((rd_T143 x1 x5).f0) ((rd_T143 x1 x5).f1)).bind fun t841 => (if t841 = true then (qw.l0 k x0 x1 (wrap64 (x5 + 1))) else (some false))) else (none)) else (none)) else (some true)
def qw.f (k : Nat) (l0 : List (S143)) (l1 : List (S143)) : Option (Bool) := if (l0.length : Int) = (l1.length : Int) then (qw.l0 k l0 l1 0) else (some false)
theorem qw.mono_l : ∀ k, (∀ y0 y1 y2, LeO (qw.l0 k y0 y1 y2) (qw.l0 (k + 1) y0 y1 y2))
 | 0 => fun _ _ _ r h => by simp [qw.l0] at h
 | k + 1 => by
  have ih0 := qw.mono_l k
  ·intro y0 y1 y2
   unfold qw.l0
   repeat' first | (with_reducible exact ih0 _ _ _) | (with_reducible exact LeO.refl _) | (with_reducible refine LeO.ite ?_ ?_) | (with_reducible refine LeO.bind ?_ (fun _ => ?_))
theorem qw.mono : ∀ a0 a1 k, LeO (qw.f k a0 a1) (qw.f (k + 1) a0 a1) := by
 intro a0 a1 k
 have ih0 := qw.mono_l k
 unfold qw.f
 repeat' first | (with_reducible exact ih0 _ _ _) | (with_reducible exact LeO.refl _) | (with_reducible refine LeO.ite ?_ ?_)
def laws_eqEntryS.T6 : Bool × List (List Nat × List Nat) := (true, [([], []), ([], []), ([0, 1], [0, 1]), ([2], [2]), ([], []), ([], []), ([4, 5], [4, 5]), ([6], [6]), ([3, 7], [3, 7]), ([8], [8])])
def laws_eqEntryS.B6 : List Nat := [0, 0, 3, 7, 0, 0, 48, 112, 255, 511]
theorem qw.tab6 : rtab .any (opsOf Tryz.f203 6) = laws_eqEntryS.T6 := by kernel_rfl
theorem qw.bits6 : waitsOk laws_eqEntryS.T6.2 laws_eqEntryS.B6 = true := by kernel_rfl
set_option maxHeartbeats 8000000 in
set_option maxRecDepth 100000 in
theorem qw.calls (k : Nat) (A0 : Option Addr) (c0 : Nat) (l0 : List (S143)) (A1 : Option Addr) (c1 : Nat) (l1 : List (S143)) (r : Bool) (w : World) (hr0 : Kd.C k143 w A0 l0.length l0) (hc0 : l0.length ≤ c0) (hr1 : Kd.C k143 w A1 l1.length l1) (hc1 : l1.length ≤ c1) (h : qw.f k l0 l1 = some true) :
  Calls Tryz.prog 203 #[.slice A0 l0.length c0, .slice A1 l1.length c1] w fun e w' => e = .returned (.bool true) ∧ Below w.heap.size w w' := by
 have hu143 := Tryz.underlying143
 have HR0 := Am hr0
 have HC0 := Am hc0
 clear hr0 hc0
 have HR1 := Am hr1
 have HC1 := Am hc1
 clear hr1 hc1
 have HB := Am (Below.refl w.heap.size w)
 have H : (if (l0.length : Int) = (l1.length : Int) then (qw.l0 k l0 l1 0) else (some false)) = some true := h
 clear h
 by_cases c3 : (l0.length : Int) = (l1.length : Int)
 ·rw [if_pos c3] at H
  have c3b0 : ((l0.length : Int) == (l1.length : Int)) = true := beq_iff_eq.mpr c3
  have c3b1 : ((l0.length : Int) != (l1.length : Int)) = false := bne_eq_false_iff_eq.mpr c3
  have c3b2 : (l0.length == l1.length) = true := by (simp at c3 ⊢; omega)
  clear c3
  have H' := Am H
  clear H
  go_enter Tryz.func203, Tryz.ntmps203
  go_wp2
  go_loopg [5] k (fun kq v5 w' => ∃ (x5_1 : Int), v5 = .int .i64 x5_1 ∧ Aside0 (qw.l0 kq l0 l1 x5_1 = some true) ∧ Aside0 (kq ≤ k) ∧ Aside0 (Below w.heap.size w w'))
  case atStart => exact ⟨(0), (by rfl), H', ⟨Nat.le_refl _⟩, ⟨HB.out⟩⟩
  case round =>
   clear H'
   try clear c3b0
   try clear c3b1
   try clear c3b2
   obtain ⟨x5_1, rfl, HA, HK1, HB⟩ := hrel
   cases gk with
   | zero => exact absurd HA.out (by simp [qw.l0])
   | succ k1 =>
    have H := HA.out
    clear HA
    simp only [qw.l0] at H
    by_cases c4 : x5_1 < (l0.length : Int)
    ·rw [if_pos c4] at H
     have c4b0 : decide (x5_1 < (l0.length : Int)) = true := decide_eq_true c4
     clear c4
     replace H := ino H
     obtain ⟨c5, H⟩ := H
     have c5b0 : decide (0 ≤ x5_1) = true := decide_eq_true c5
     clear c5
     replace H := ino H
     obtain ⟨c6, H⟩ := H
     have c6b0 : decide (x5_1 < (l1.length : Int)) = true := decide_eq_true c6
     clear c6
     replace H := zbs H
     obtain ⟨t841, A7, H⟩ := H
     by_cases c8 : t841 = true
     ·subst c8
      have H1 : (qw.l0 k1 l0 l1 (wrap64 (x5_1 + 1))) = some true := by rw [if_pos rfl] at H; exact H
      clear H
      have H := H1
      clear H1
      have H' := Am H
      clear H
      try go_wp2
      replace HB := Am (below_drew1 HB.out)
      have p839 : 0 ≤ (x5_1 : Int) := od (by assumption)
      have q839 : x5_1 < (l0.length : Int) := od (by assumption)
      obtain ⟨ad839, e839, hx839_0, hx839_1⟩ := at_T143 HR0.out x5_1 p839 q839
      have hw839_1 := hx839_1
      have hw839_0 := hx839_0
      cases e839
      replace hx839_0 := pcb HB.out hx839_0
      replace hx839_1 := pcb HB.out hx839_1
      replace p839 := eq_true p839
      replace q839 := eq_true q839
      have p840 : 0 ≤ (x5_1 : Int) := od (by assumption)
      have q840 : x5_1 < (l1.length : Int) := od (by assumption)
      obtain ⟨ad840, e840, hx840_0, hx840_1⟩ := at_T143 HR1.out x5_1 p840 q840
      have hw840_1 := hx840_1
      have hw840_0 := hx840_0
      cases e840
      replace hx840_0 := pcb HB.out hx840_0
      replace hx840_1 := pcb HB.out hx840_1
      replace p840 := eq_true p840
      replace q840 := eq_true q840
      refine start_ (n := 10) (S := fun w' => w'.cell? (ad839.add ((x5_1).toNat * 2)) = some (.string ((rd_T143 l0 x5_1).f0)) ∧ w'.cell? ⟨(ad839.add ((x5_1).toNat * 2)).block, (ad839.add ((x5_1).toNat * 2)).off + 1, none⟩ = some (.int .i64 ((rd_T143 l0 x5_1).f1)) ∧ w'.cell? (ad840.add ((x5_1).toNat * 2)) = some (.string ((rd_T143 l1 x5_1).f0)) ∧ w'.cell? ⟨(ad840.add ((x5_1).toNat * 2)).block, (ad840.add ((x5_1).toNat * 2)).off + 1, none⟩ = some (.int .i64 ((rd_T143 l1 x5_1).f1))) (ds := []) #[false, false, false, false, false, false, false, false, false, false] (by kernel_rfl) rfl rfl ⟨((HB.out.cell (World.block_lt_of_cell? w _ hw839_0)).trans hw839_0), ((HB.out.cell (World.block_lt_of_cell? w _ hw839_1)).trans hw839_1), ((HB.out.cell (World.block_lt_of_cell? w _ hw840_0)).trans hw840_0), ((HB.out.cell (World.block_lt_of_cell? w _ hw840_1)).trans hw840_1)⟩ (fun hHeld => ?_); refine with_tabW qw.tab6 qw.bits6 (fun HT_ HW_ => ?_)
      generalize wr.drew = w9 at HB hx839_0 hx839_1 hx840_0 hx840_1 hHeld ⊢
      refine pure_ (i := 0) (N := some 17) (v := ?_) (a' := ?_) #[true, false, false, false, false, false, false, false, false, false] rfl rfl (any_of HT_.out (by kernel_rfl)) (fun _ _ _ h => h) (Or.inl ⟨by rfl, ?_⟩) ?_ ?_
      rotate_left
      ·intro w'
       go_simp
       with_reducible rfl
      rotate_left
      ·simp only [Act.put, List.setIfInBounds_toArray, List.set_cons_zero, List.set_cons_succ, i64_w, i32_w]
       rfl
      refine pure_ (i := 1) (N := some 18) (v := ?_) (a' := ?_) #[true, true, false, false, false, false, false, false, false, false] rfl rfl (any_of HT_.out (by kernel_rfl)) (fun _ _ _ h => h) (Or.inl ⟨by rfl, ?_⟩) ?_ ?_
      rotate_left
      ·intro w'
       go_simp
       with_reducible rfl
      rotate_left
      ·simp only [Act.put, List.setIfInBounds_toArray, List.set_cons_zero, List.set_cons_succ, i64_w, i32_w]
       rfl
      refine pure_ (i := 2) (N := some 19) (v := ?_) (a' := ?_) #[true, true, true, false, false, false, false, false, false, false] rfl rfl (any_of HT_.out (by kernel_rfl)) (fun _ _ _ h => h) (Or.inl ⟨by rfl, ?_⟩) ?_ ?_
      rotate_left
      ·intro w'
       go_simp
       with_reducible rfl
      rotate_left
      ·simp only [Act.put, List.setIfInBounds_toArray, List.set_cons_zero, List.set_cons_succ, i64_w, i32_w]
       rfl
      refine pure_ (i := 4) (N := some 21) (v := ?_) (a' := ?_) #[true, true, true, false, true, false, false, false, false, false] rfl rfl (any_of HT_.out (by kernel_rfl)) (fun _ _ _ h => h) (Or.inl ⟨by rfl, ?_⟩) ?_ ?_
      rotate_left
      ·intro w'
       go_simp
       with_reducible rfl
      rotate_left
      ·simp only [Act.put, List.setIfInBounds_toArray, List.set_cons_zero, List.set_cons_succ, i64_w, i32_w]
       rfl
      refine pure_ (i := 5) (N := some 22) (v := ?_) (a' := ?_) #[true, true, true, false, true, true, false, false, false, false] rfl rfl (any_of HT_.out (by kernel_rfl)) (fun _ _ _ h => h) (Or.inl ⟨by rfl, ?_⟩) ?_ ?_
      rotate_left
      ·intro w'
       go_simp
       with_reducible rfl
      rotate_left
      ·simp only [Act.put, List.setIfInBounds_toArray, List.set_cons_zero, List.set_cons_succ, i64_w, i32_w]
       rfl
      refine pure_ (i := 6) (N := some 23) (v := ?_) (a' := ?_) #[true, true, true, false, true, true, true, false, false, false] rfl rfl (any_of HT_.out (by kernel_rfl)) (fun _ _ _ h => h) (Or.inl ⟨by rfl, ?_⟩) ?_ ?_
      rotate_left
      ·intro w'
       go_simp
       with_reducible rfl
      rotate_left
      ·simp only [Act.put, List.setIfInBounds_toArray, List.set_cons_zero, List.set_cons_succ, i64_w, i32_w]
       rfl
      refine take_ (i := 3) (N := some 20) (v := ?_) (a' := ?_) #[true, true, true, true, true, true, true, false, false, false] rfl rfl (take_ofW HT_.out HW_.out (by kernel_rfl)) (fun _ _ _ h => h) (Or.inl ⟨by rfl, ?_⟩) hHeld ?_ ?_
      rotate_left
      ·rintro w' ⟨s0, s1, s2, s3⟩
       go_simp
       with_reducible rfl
      rotate_left
      ·simp only [Act.put, List.setIfInBounds_toArray, List.set_cons_zero, List.set_cons_succ, i64_w, i32_w]
       rfl
      refine take_ (i := 7) (N := some 24) (v := ?_) (a' := ?_) #[true, true, true, true, true, true, true, true, false, false] rfl rfl (take_ofW HT_.out HW_.out (by kernel_rfl)) (fun _ _ _ h => h) (Or.inl ⟨by rfl, ?_⟩) hHeld ?_ ?_
      rotate_left
      ·rintro w' ⟨s0, s1, s2, s3⟩
       go_simp
       with_reducible rfl
      rotate_left
      ·simp only [Act.put, List.setIfInBounds_toArray, List.set_cons_zero, List.set_cons_succ, i64_w, i32_w]
       rfl
      refine one_ (i := 8) (N := some 25) #[true, true, true, true, true, true, true, true, true, false] rfl rfl (one_of HT_.out (by kernel_rfl)) (by decide) (fun K hK => ?_)
      refine goes_ Tryz.func248 (by kernel_rfl) rfl #[.agg #[.string ((rd_T143 l0 x5_1).f0), .int .i64 ((rd_T143 l0 x5_1).f1)], .agg #[.string ((rd_T143 l1 x5_1).f0), .int .i64 ((rd_T143 l1 x5_1).f1)]] (by rfl) rfl rfl (by (try simp only [List.map_toArray, List.map_cons, List.map_nil]); rfl) ?_
      with_reducible refine (qv.calls ((rd_T143 l0 x5_1).f0) ((rd_T143 l0 x5_1).f1) ((rd_T143 l1 x5_1).f0) ((rd_T143 l1 x5_1).f1) true _ A7.out).mono ?_
      rintro e w10 ⟨rfl, hb⟩
      refine ⟨_, rfl, ?_⟩
      replace HB := Am (below_step HB.out hb)
      (try clear hb)
      refine hK.out _ _ ⟨((HB.out.cell (World.block_lt_of_cell? w _ hw839_0)).trans hw839_0), ((HB.out.cell (World.block_lt_of_cell? w _ hw839_1)).trans hw839_1), ((HB.out.cell (World.block_lt_of_cell? w _ hw840_0)).trans hw840_0), ((HB.out.cell (World.block_lt_of_cell? w _ hw840_1)).trans hw840_1)⟩ (fun hHeld => ?_)
      clear hK K
      refine norm_ (a' := ?_) ?_ ?_
      rotate_left
      ·show Act.put _ (some 25) _ = _
       simp only [Act.put, List.setIfInBounds_toArray, List.set_cons_zero, List.set_cons_succ, i64_w, i32_w]
       rfl
      refine pure_ (i := 9) (N := some 26) (v := ?_) (a' := ?_) #[true, true, true, true, true, true, true, true, true, true] rfl rfl (any_of HT_.out (by kernel_rfl)) (fun _ _ _ h => h) (Or.inl ⟨by rfl, ?_⟩) ?_ ?_
      rotate_left
      ·intro w'
       go_simp
       with_reducible rfl
      rotate_left
      ·simp only [Act.put, List.setIfInBounds_toArray, List.set_cons_zero, List.set_cons_succ, i64_w, i32_w]
       rfl
      refine done_ (done_of HT_.out (by kernel_rfl)) ?_
      try go_wp2
      go_roundg k1
      case measure => have := HK1.out; omega
      case rel => exact ⟨(wrap64 (x5_1 + 1)), (by rfl), H', ⟨by have := HK1.out; omega⟩, ⟨HB.out⟩⟩
     ·replace c8 := Bool.eq_false_iff.mpr c8
      subst c8
      have H1 : (some false) = some true := by rw [if_neg (show ¬ (false = true) by decide)] at H; exact H
      clear H
      have H := H1
      clear H1
      exact absurd (Option.some.inj H) (by decide)
    ·rw [if_neg c4] at H
     have c4b0 : decide (x5_1 < (l0.length : Int)) = false := decide_eq_false c4
     clear c4 H
     go_wp2
     go_ret
     exact ⟨by rfl, HB.out⟩
 ·rw [if_neg c3] at H
  have c3b0 : ((l0.length : Int) == (l1.length : Int)) = false := beq_eq_false_iff_ne.mpr c3
  have c3b1 : ((l0.length : Int) != (l1.length : Int)) = true := bne_iff_ne.mpr c3
  have c3b2 : (l0.length == l1.length) = false := by (simp at c3 ⊢; omega)
  exact absurd (Option.some.inj H) (by decide)
def q10.l0 : Nat → List Int → List Int → Int → Option (Bool)
 | 0, _, _, _ => none
 | k + 1, x0, x1, x5 => if x5 < (x0.length : Int) then (if 0 ≤ x5 then (if x5 < (x1.length : Int) then (if (rd x0 x5) = (rd x1 x5) then (q10.l0 k x0 x1 (wrap64 (x5 + 1))) else (some false)) else (none)) else (none)) else (some true)
def q10.f (k : Nat) (l0 : List Int) (l1 : List Int) : Option (Bool) := if (l0.length : Int) = (l1.length : Int) then (q10.l0 k l0 l1 0) else (some false)
theorem q10.mono_l : ∀ k, (∀ y0 y1 y2, LeO (q10.l0 k y0 y1 y2) (q10.l0 (k + 1) y0 y1 y2))
 | 0 => fun _ _ _ r h => by simp [q10.l0] at h
 | k + 1 => by
  have ih0 := q10.mono_l k
  ·intro y0 y1 y2
   unfold q10.l0
   repeat' first | (with_reducible exact ih0 _ _ _) | (with_reducible exact LeO.refl _) | (with_reducible refine LeO.ite ?_ ?_)
theorem q10.mono : ∀ a0 a1 k, LeO (q10.f k a0 a1) (q10.f (k + 1) a0 a1) := by
 intro a0 a1 k
 have ih0 := q10.mono_l k
 unfold q10.f
 repeat' first | (with_reducible exact ih0 _ _ _) | (with_reducible exact LeO.refl _) | (with_reducible refine LeO.ite ?_ ?_)
set_option maxHeartbeats 8000000 in
set_option maxRecDepth 100000 in
theorem q10.calls (k : Nat) (A0 : Option Addr) (c0 : Nat) (l0 : List Int) (A1 : Option Addr) (c1 : Nat) (l1 : List Int) (r : Bool) (w : World) (hr0 : Kd.C (Kd.int .i64) w A0 l0.length l0) (hc0 : l0.length ≤ c0) (hr1 : Kd.C (Kd.int .i64) w A1 l1.length l1) (hc1 : l1.length ≤ c1) (h : q10.f k l0 l1 = some true) :
  Calls Tryz.prog 202 #[.slice A0 l0.length c0, .slice A1 l1.length c1] w fun e w' => e = .returned (.bool true) ∧ Drawn0 w w' := by
 have HR0 := Am hr0
 have HC0 := Am hc0
 clear hr0 hc0
 have HR1 := Am hr1
 have HC1 := Am hc1
 clear hr1 hc1
 have H : (if (l0.length : Int) = (l1.length : Int) then (q10.l0 k l0 l1 0) else (some false)) = some true := h
 clear h
 by_cases c3 : (l0.length : Int) = (l1.length : Int)
 ·rw [if_pos c3] at H
  have c3b0 : ((l0.length : Int) == (l1.length : Int)) = true := beq_iff_eq.mpr c3
  have c3b1 : ((l0.length : Int) != (l1.length : Int)) = false := bne_eq_false_iff_eq.mpr c3
  have c3b2 : (l0.length == l1.length) = true := by (simp at c3 ⊢; omega)
  clear c3
  have H' := Am H
  clear H
  go_enter Tryz.func202, Tryz.ntmps202
  go_wp2
  repeat (go_quiet (fail))
  go_loopg [5] k (fun kq v5 w' => ∃ (x5_1 : Int), v5 = .int .i64 x5_1 ∧ Aside0 (q10.l0 kq l0 l1 x5_1 = some true) ∧ Aside0 (kq ≤ k) ∧ Drawn0 w w')
  case atStart => exact ⟨(0), (by rfl), H', ⟨Nat.le_refl _⟩, by repeat (exact Drawn0.refl _)⟩
  case round =>
   clear H'
   try clear c3b0
   try clear c3b1
   try clear c3b2
   obtain ⟨x5_1, rfl, HA, HK1, ⟨m1, rfl⟩⟩ := hrel
   cases gk with
   | zero => exact absurd HA.out (by simp [q10.l0])
   | succ k1 =>
    have H := HA.out
    clear HA
    simp only [q10.l0] at H
    by_cases c4 : x5_1 < (l0.length : Int)
    ·rw [if_pos c4] at H
     have c4b0 : decide (x5_1 < (l0.length : Int)) = true := decide_eq_true c4
     clear c4
     replace H := ino H
     obtain ⟨c5, H⟩ := H
     have c5b0 : decide (0 ≤ x5_1) = true := decide_eq_true c5
     clear c5
     replace H := ino H
     obtain ⟨c6, H⟩ := H
     have c6b0 : decide (x5_1 < (l1.length : Int)) = true := decide_eq_true c6
     clear c6
     by_cases c7 : (rd l0 x5_1) = (rd l1 x5_1)
     ·rw [if_pos c7] at H
      have c7b0 : ((rd l0 x5_1) == (rd l1 x5_1)) = true := beq_iff_eq.mpr c7
      have c7b1 : ((rd l0 x5_1) != (rd l1 x5_1)) = false := bne_eq_false_iff_eq.mpr c7
      clear c7
      have H' := Am H
      clear H
      have p835 : 0 ≤ (x5_1 : Int) := od (by assumption)
      have q835 : x5_1 < (l0.length : Int) := od (by assumption)
      obtain ⟨ad835, e835, hx835_0⟩ := Kd.at_int HR0.out x5_1 p835 q835
      cases e835
      replace p835 := eq_true p835
      replace q835 := eq_true q835
      have p836 : 0 ≤ (x5_1 : Int) := od (by assumption)
      have q836 : x5_1 < (l1.length : Int) := od (by assumption)
      obtain ⟨ad836, e836, hx836_0⟩ := Kd.at_int HR1.out x5_1 p836 q836
      cases e836
      replace p836 := eq_true p836
      replace q836 := eq_true q836
      go_wp2
      repeat (go_quiet (fail); try go_wp2)
      go_roundg k1
      case measure => have := HK1.out; omega
      case rel => exact ⟨(wrap64 (x5_1 + 1)), (by rfl), H', ⟨by have := HK1.out; omega⟩, by repeat (first | exact Drawn0.refl _ | apply Drawn0.step)⟩
     ·rw [if_neg c7] at H
      have c7b0 : ((rd l0 x5_1) == (rd l1 x5_1)) = false := beq_eq_false_iff_ne.mpr c7
      have c7b1 : ((rd l0 x5_1) != (rd l1 x5_1)) = true := bne_iff_ne.mpr c7
      exact absurd (Option.some.inj H) (by decide)
    ·rw [if_neg c4] at H
     have c4b0 : decide (x5_1 < (l0.length : Int)) = false := decide_eq_false c4
     clear c4 H
     go_wp2
     repeat (go_quiet (fail))
     go_ret
     exact ⟨by rfl, by repeat (first | exact Drawn0.refl _ | apply Drawn0.step)⟩
 ·rw [if_neg c3] at H
  have c3b0 : ((l0.length : Int) == (l1.length : Int)) = false := beq_eq_false_iff_ne.mpr c3
  have c3b1 : ((l0.length : Int) != (l1.length : Int)) = true := bne_iff_ne.mpr c3
  have c3b2 : (l0.length == l1.length) = false := by (simp at c3 ⊢; omega)
  exact absurd (Option.some.inj H) (by decide)
def qy.f (k : Nat) (a0_0 : Int) (a0_1 : Int) (a0_2 : Int) (l0_3 : List Int) (l0_4 : List (S143)) (a1_0 : Int) (a1_1 : Int) (a1_2 : Int) (l1_3 : List Int) (l1_4 : List (S143)) : Option (Bool) := if a0_0 = a1_0 then (if a0_1 = a1_1 then (if a0_2 = a1_2 then ((q10.f k l0_3 l1_3).bind fun t844 => (if t844 = true then ((qw.f k l0_4 l1_4).bind fun t845 => (if t845 = true then (some true) else (some false))) else (some false))) else (some false)) else (some false)) else (some false)
theorem qy.mono : ∀ a0 a1 a2 a3 a4 a5 a6 a7 a8 a9 k, LeO (qy.f k a0 a1 a2 a3 a4 a5 a6 a7 a8 a9) (qy.f (k + 1) a0 a1 a2 a3 a4 a5 a6 a7 a8 a9) := by
 intro a0 a1 a2 a3 a4 a5 a6 a7 a8 a9 k
 unfold qy.f
 repeat' first | (with_reducible exact qw.mono _ _ _) | (with_reducible exact q10.mono _ _ _) | (with_reducible exact LeO.refl _) | (with_reducible refine LeO.ite ?_ ?_) | (with_reducible refine LeO.bind ?_ (fun _ => ?_))
set_option maxHeartbeats 8000000 in
set_option maxRecDepth 100000 in
theorem qy.calls (k : Nat) (a0_0 : Int) (a0_1 : Int) (a0_2 : Int) (A0_3 : Option Addr) (c0_3 : Nat) (l0_3 : List Int) (A0_4 : Option Addr) (c0_4 : Nat) (l0_4 : List (S143)) (a1_0 : Int) (a1_1 : Int) (a1_2 : Int) (A1_3 : Option Addr) (c1_3 : Nat) (l1_3 : List Int) (A1_4 : Option Addr) (c1_4 : Nat) (l1_4 : List (S143)) (r : Bool) (w : World) (hr0_3 : Kd.C (Kd.int .i64) w A0_3 l0_3.length l0_3) (hc0_3 : l0_3.length ≤ c0_3) (hr0_4 : Kd.C k143 w A0_4 l0_4.length l0_4) (hc0_4 : l0_4.length ≤ c0_4) (hr1_3 : Kd.C (Kd.int .i64) w A1_3 l1_3.length l1_3) (hc1_3 : l1_3.length ≤ c1_3) (hr1_4 : Kd.C k143 w A1_4 l1_4.length l1_4) (hc1_4 : l1_4.length ≤ c1_4) (h : qy.f k a0_0 a0_1 a0_2 l0_3 l0_4 a1_0 a1_1 a1_2 l1_3 l1_4 = some true) :
  Calls Tryz.prog 134 #[.agg #[.int .i64 a0_0, .int .i64 a0_1, .int .i64 a0_2, .slice A0_3 l0_3.length c0_3, .slice A0_4 l0_4.length c0_4], .agg #[.int .i64 a1_0, .int .i64 a1_1, .int .i64 a1_2, .slice A1_3 l1_3.length c1_3, .slice A1_4 l1_4.length c1_4]] w fun e w' => e = .returned (.bool true) ∧ Below w.heap.size w w' := by
 have hu86 := Tryz.underlying86
 have HR0_3 := Am hr0_3
 have HC0_3 := Am hc0_3
 clear hr0_3 hc0_3
 have HR0_4 := Am hr0_4
 have HC0_4 := Am hc0_4
 clear hr0_4 hc0_4
 have HR1_3 := Am hr1_3
 have HC1_3 := Am hc1_3
 clear hr1_3 hc1_3
 have HR1_4 := Am hr1_4
 have HC1_4 := Am hc1_4
 clear hr1_4 hc1_4
 have HB := Am (Below.refl w.heap.size w)
 have H : (if a0_0 = a1_0 then (if a0_1 = a1_1 then (if a0_2 = a1_2 then ((q10.f k l0_3 l1_3).bind fun t844 => (if t844 = true then ((qw.f k l0_4 l1_4).bind fun t845 => (if t845 = true then (some true) else (some false))) else (some false))) else (some false)) else (some false)) else (some false)) = some true := h
 clear h
 by_cases c3 : a0_0 = a1_0
 ·rw [if_pos c3] at H
  have c3b0 : (a0_0 == a1_0) = true := beq_iff_eq.mpr c3
  have c3b1 : (a0_0 != a1_0) = false := bne_eq_false_iff_eq.mpr c3
  clear c3
  by_cases c4 : a0_1 = a1_1
  ·rw [if_pos c4] at H
   have c4b0 : (a0_1 == a1_1) = true := beq_iff_eq.mpr c4
   have c4b1 : (a0_1 != a1_1) = false := bne_eq_false_iff_eq.mpr c4
   clear c4
   by_cases c5 : a0_2 = a1_2
   ·rw [if_pos c5] at H
    have c5b0 : (a0_2 == a1_2) = true := beq_iff_eq.mpr c5
    have c5b1 : (a0_2 != a1_2) = false := bne_eq_false_iff_eq.mpr c5
    clear c5
    replace H := zbs H
    obtain ⟨t844, A6, H⟩ := H
    by_cases c7 : t844 = true
    ·subst c7
     have H1 : ((qw.f k l0_4 l1_4).bind fun t845 => (if t845 = true then (some true) else (some false))) = some true := by rw [if_pos rfl] at H; exact H
     clear H
     have H := H1
     clear H1
     replace H := zbs H
     obtain ⟨t845, A8, H⟩ := H
     by_cases c9 : t845 = true
     ·subst c9
      have H1 : (some true) = some true := rfl
      clear H
      have H := H1
      clear H1 H
      go_enter Tryz.func134, Tryz.ntmps134
      go_wp2_with (first | ((with_reducible refine gate_dst (N := 2) rfl ?_); refine box_event ?hg (N := 2) ?hd (cs := #[.int .i64 a0_0, .int .i64 a0_1, .int .i64 a0_2, .slice A0_3 l0_3.length c0_3, .slice A0_4 l0_4.length c0_4]) (t := 86) ?hr ?_; (case hd => rfl); (case hg => rfl); (case hr => (go_simp; done)); intro gb842 hg w10 hbox hb; have BK842 := Am hbox; have GW842 := Am ((nge hg HB.out)); have GE842 := Am ((nge hg HB.out)); replace HB := Am (below_step HB.out hb); clear hb hbox hg) | ((with_reducible refine gate_dst (N := 3) rfl ?_); refine box_event ?hg (N := 3) ?hd (cs := #[.int .i64 a1_0, .int .i64 a1_1, .int .i64 a1_2, .slice A1_3 l1_3.length c1_3, .slice A1_4 l1_4.length c1_4]) (t := 86) ?hr ?_; (case hd => rfl); (case hg => rfl); (case hr => (go_simp; done)); intro gb843 hg w11 hbox hb; have BK843 := Am hbox; have GW843 := Am ((nge hg HB.out)); have GE843 := Am ((nge hg HB.out)); replace HB := Am (below_step HB.out hb); have NB842_843 := Am ((nlt hg (g := gb842) (o := .cells #[.int .i64 a0_0, .int .i64 a0_1, .int .i64 a0_2, .slice A0_3 l0_3.length c0_3, .slice A0_4 l0_4.length c0_4] 86 (0, 0)) BK842.out)); have NB843_842 := Am ((ngt hg (g := gb842) (o := .cells #[.int .i64 a0_0, .int .i64 a0_1, .int .i64 a0_2, .slice A0_3 l0_3.length c0_3, .slice A0_4 l0_4.length c0_4] 86 (0, 0)) BK842.out)); replace BK842 := Am (blk_below BK842.out hb); clear hb hbox hg; have hnb12 := NB842_843.out; have hnc12 := NB843_842.out; obtain ⟨hcz13_0, hcz13_1, hcz13_2, hcz13_3, hcz13_4, hfz13_0, hfz13_1, hfz13_2, hfz13_3, hfz13_4⟩ := cb5 BK842.out; obtain ⟨hcz14_0, hcz14_1, hcz14_2, hcz14_3, hcz14_4, hfz14_0, hfz14_1, hfz14_2, hfz14_3, hfz14_4⟩ := cb5 BK843.out) | ((with_reducible refine gate_callee (f := 202) rfl ?_); refine goesL_ (some 24) rfl rfl Tryz.func202 (by kernel_rfl) rfl #[.slice A0_3 l0_3.length c0_3, .slice A1_3 l1_3.length c1_3] rfl (by (try simp only [List.map_toArray, List.map_cons, List.map_nil]); rfl) ?_; (with_reducible refine (q10.calls k _ _ l0_3 _ _ l1_3 true _ ?side1 ?side2 ?side3 ?side4 A6.out).mono ?_); (case side1 => repeat (exact (Kd.C_below HR0_3.out HB.out))); (case side2 => exact HC0_3.out); (case side3 => repeat (exact (Kd.C_below HR1_3.out HB.out))); (case side4 => exact HC1_3.out); rintro e w' ⟨rfl, ⟨nd, rfl⟩⟩; refine ⟨_, rfl, ?_⟩) | ((with_reducible refine gate_callee (f := 203) rfl ?_); refine goesL_ (some 30) rfl rfl Tryz.func203 (by kernel_rfl) rfl #[.slice A0_4 l0_4.length c0_4, .slice A1_4 l1_4.length c1_4] rfl (by (try simp only [List.map_toArray, List.map_cons, List.map_nil]); rfl) ?_; (with_reducible refine (qw.calls k _ _ l0_4 _ _ l1_4 true _ ?side1 ?side2 ?side3 ?side4 A8.out).mono ?_); (case side1 => repeat (exact (Kd.C_below HR0_4.out (by repeat ((with_reducible first | exact HB.out | apply pw_below_drewN)))))); (case side2 => exact HC0_4.out); (case side3 => repeat (exact (Kd.C_below HR1_4.out (by repeat ((with_reducible first | exact HB.out | apply pw_below_drewN)))))); (case side4 => exact HC1_4.out); rintro e w15 ⟨rfl, hb⟩; refine ⟨_, rfl, ?_⟩; replace BK842 := Am (blk_below (by (with_reducible repeat (refine blk_drewN ?_ _)); exact BK842.out) hb); replace BK843 := Am (blk_below (by (with_reducible repeat (refine blk_drewN ?_ _)); exact BK843.out) hb); replace HB := Am (below_step (by repeat ((with_reducible first | exact HB.out | apply pw_below_drewN))) hb); (try clear hb)))
      go_ret
      exact ⟨by rfl, HB.out⟩
     ·replace c9 := Bool.eq_false_iff.mpr c9
      subst c9
      have H1 : (some false) = some true := by rw [if_neg (show ¬ (false = true) by decide)] at H; exact H
      clear H
      have H := H1
      clear H1
      exact absurd (Option.some.inj H) (by decide)
    ·replace c7 := Bool.eq_false_iff.mpr c7
     subst c7
     have H1 : (some false) = some true := by rw [if_neg (show ¬ (false = true) by decide)] at H; exact H
     clear H
     have H := H1
     clear H1
     exact absurd (Option.some.inj H) (by decide)
   ·rw [if_neg c5] at H
    have c5b0 : (a0_2 == a1_2) = false := beq_eq_false_iff_ne.mpr c5
    have c5b1 : (a0_2 != a1_2) = true := bne_iff_ne.mpr c5
    exact absurd (Option.some.inj H) (by decide)
  ·rw [if_neg c4] at H
   have c4b0 : (a0_1 == a1_1) = false := beq_eq_false_iff_ne.mpr c4
   have c4b1 : (a0_1 != a1_1) = true := bne_iff_ne.mpr c4
   exact absurd (Option.some.inj H) (by decide)
 ·rw [if_neg c3] at H
  have c3b0 : (a0_0 == a1_0) = false := beq_eq_false_iff_ne.mpr c3
  have c3b1 : (a0_0 != a1_0) = true := bne_iff_ne.mpr c3
  exact absurd (Option.some.inj H) (by decide)
def qz.l0 : Nat → List (S86) → List (S86) → Int → Option (Bool)
 | 0, _, _, _ => none
 | k + 1, x0, x1, x5 => if x5 < (x0.length : Int) then (if 0 ≤ x5 then (if x5 < (x1.length : Int) then ((qy.f k ((rd_T86 x0 x5).f0) ((rd_T86 x0 x5).f1) ((rd_T86 x0 x5).f2) ((rd_T86 x0 x5).f3) ((rd_T86 x0 x5).f4) ((rd_T86 x1 x5).f0) ((rd_T86 x1 x5).f1) ((rd_T86 x1 x5).f2) ((rd_T86 x1 x5).f3) ((rd_T86 x1 x5).f4)).bind fun t848 => (if t848 = true then (qz.l0 k x0 x1 (wrap64 (x5 + 1))) else (some false))) else (none)) else (none)) else (some true)
def qz.f (k : Nat) (l0 : List (S86)) (l1 : List (S86)) : Option (Bool) := if (l0.length : Int) = (l1.length : Int) then (qz.l0 k l0 l1 0) else (some false)
theorem qz.mono_l : ∀ k, (∀ y0 y1 y2, LeO (qz.l0 k y0 y1 y2) (qz.l0 (k + 1) y0 y1 y2))
 | 0 => fun _ _ _ r h => by simp [qz.l0] at h
 | k + 1 => by
  have ih0 := qz.mono_l k
  ·intro y0 y1 y2
   unfold qz.l0
   repeat' first | (with_reducible exact ih0 _ _ _) | (with_reducible exact qy.mono _ _ _ _ _ _ _ _ _ _ _) | (with_reducible exact LeO.refl _) | (with_reducible refine LeO.ite ?_ ?_) | (with_reducible refine LeO.bind ?_ (fun _ => ?_))
theorem qz.mono : ∀ a0 a1 k, LeO (qz.f k a0 a1) (qz.f (k + 1) a0 a1) := by
 intro a0 a1 k
 have ih0 := qz.mono_l k
 unfold qz.f
 repeat' first | (with_reducible exact ih0 _ _ _) | (with_reducible exact LeO.refl _) | (with_reducible refine LeO.ite ?_ ?_)
def laws_eqInodeS.T6 : Bool × List (List Nat × List Nat) := (true, [([], []), ([], []), ([0, 1], [0, 1]), ([2], [2]), ([], []), ([], []), ([4, 5], [4, 5]), ([6], [6]), ([3, 7], [3, 7]), ([8], [8])])
def laws_eqInodeS.B6 : List Nat := [0, 0, 3, 7, 0, 0, 48, 112, 255, 511]
theorem qz.tab6 : rtab .any (opsOf Tryz.f65 6) = laws_eqInodeS.T6 := by kernel_rfl
theorem qz.bits6 : waitsOk laws_eqInodeS.T6.2 laws_eqInodeS.B6 = true := by kernel_rfl
set_option maxHeartbeats 8000000 in
set_option maxRecDepth 100000 in
theorem qz.calls (k : Nat) (A0 : Option Addr) (c0 : Nat) (l0 : List (S86)) (A1 : Option Addr) (c1 : Nat) (l1 : List (S86)) (r : Bool) (w : World) (hr0 : Kd.C k86 w A0 l0.length l0) (hc0 : l0.length ≤ c0) (hr1 : Kd.C k86 w A1 l1.length l1) (hc1 : l1.length ≤ c1) (h : qz.f k l0 l1 = some true) :
  Calls Tryz.prog 65 #[.slice A0 l0.length c0, .slice A1 l1.length c1] w fun e w' => e = .returned (.bool true) ∧ Below w.heap.size w w' := by
 have hu86 := Tryz.underlying86
 have HR0 := Am hr0
 have HC0 := Am hc0
 clear hr0 hc0
 have HR1 := Am hr1
 have HC1 := Am hc1
 clear hr1 hc1
 have HB := Am (Below.refl w.heap.size w)
 have H : (if (l0.length : Int) = (l1.length : Int) then (qz.l0 k l0 l1 0) else (some false)) = some true := h
 clear h
 by_cases c3 : (l0.length : Int) = (l1.length : Int)
 ·rw [if_pos c3] at H
  have c3b0 : ((l0.length : Int) == (l1.length : Int)) = true := beq_iff_eq.mpr c3
  have c3b1 : ((l0.length : Int) != (l1.length : Int)) = false := bne_eq_false_iff_eq.mpr c3
  have c3b2 : (l0.length == l1.length) = true := by (simp at c3 ⊢; omega)
  clear c3
  have H' := Am H
  clear H
  go_enter Tryz.func65, Tryz.ntmps65
  go_wp2
  go_loopg [5] k (fun kq v5 w' => ∃ (x5_1 : Int), v5 = .int .i64 x5_1 ∧ Aside0 (qz.l0 kq l0 l1 x5_1 = some true) ∧ Aside0 (kq ≤ k) ∧ Aside0 (Below w.heap.size w w'))
  case atStart => exact ⟨(0), (by rfl), H', ⟨Nat.le_refl _⟩, ⟨HB.out⟩⟩
  case round =>
   clear H'
   try clear c3b0
   try clear c3b1
   try clear c3b2
   obtain ⟨x5_1, rfl, HA, HK1, HB⟩ := hrel
   cases gk with
   | zero => exact absurd HA.out (by simp [qz.l0])
   | succ k1 =>
    have H := HA.out
    clear HA
    simp only [qz.l0] at H
    by_cases c4 : x5_1 < (l0.length : Int)
    ·rw [if_pos c4] at H
     have c4b0 : decide (x5_1 < (l0.length : Int)) = true := decide_eq_true c4
     clear c4
     replace H := ino H
     obtain ⟨c5, H⟩ := H
     have c5b0 : decide (0 ≤ x5_1) = true := decide_eq_true c5
     clear c5
     replace H := ino H
     obtain ⟨c6, H⟩ := H
     have c6b0 : decide (x5_1 < (l1.length : Int)) = true := decide_eq_true c6
     clear c6
     replace H := zbs H
     obtain ⟨t848, A7, H⟩ := H
     by_cases c8 : t848 = true
     ·subst c8
      have H1 : (qz.l0 k1 l0 l1 (wrap64 (x5_1 + 1))) = some true := by rw [if_pos rfl] at H; exact H
      clear H
      have H := H1
      clear H1
      have H' := Am H
      clear H
      try go_wp2
      replace HB := Am (below_drew1 HB.out)
      have p846 : 0 ≤ (x5_1 : Int) := od (by assumption)
      have q846 : x5_1 < (l0.length : Int) := od (by assumption)
      obtain ⟨ad846, A846_3, c846_3, A846_4, c846_4, e846, hx846_0, hx846_1, hx846_2, hx846_3, hx846_4, hl846_3, hi846_3, hl846_4, hi846_4⟩ := at_T86 HR0.out x5_1 p846 q846
      have hw846_4 := hx846_4
      have hw846_3 := hx846_3
      have hw846_2 := hx846_2
      have hw846_1 := hx846_1
      have hw846_0 := hx846_0
      cases e846
      replace hx846_0 := pcb HB.out hx846_0
      replace hx846_1 := pcb HB.out hx846_1
      replace hx846_2 := pcb HB.out hx846_2
      replace hx846_3 := pcb HB.out hx846_3
      replace hx846_4 := pcb HB.out hx846_4
      have HR846_3 := Am hi846_3
      have HC846_3 := Am hl846_3
      clear hi846_3 hl846_3
      have HR846_4 := Am hi846_4
      have HC846_4 := Am hl846_4
      clear hi846_4 hl846_4
      replace p846 := eq_true p846
      replace q846 := eq_true q846
      have p847 : 0 ≤ (x5_1 : Int) := od (by assumption)
      have q847 : x5_1 < (l1.length : Int) := od (by assumption)
      obtain ⟨ad847, A847_3, c847_3, A847_4, c847_4, e847, hx847_0, hx847_1, hx847_2, hx847_3, hx847_4, hl847_3, hi847_3, hl847_4, hi847_4⟩ := at_T86 HR1.out x5_1 p847 q847
      have hw847_4 := hx847_4
      have hw847_3 := hx847_3
      have hw847_2 := hx847_2
      have hw847_1 := hx847_1
      have hw847_0 := hx847_0
      cases e847
      replace hx847_0 := pcb HB.out hx847_0
      replace hx847_1 := pcb HB.out hx847_1
      replace hx847_2 := pcb HB.out hx847_2
      replace hx847_3 := pcb HB.out hx847_3
      replace hx847_4 := pcb HB.out hx847_4
      have HR847_3 := Am hi847_3
      have HC847_3 := Am hl847_3
      clear hi847_3 hl847_3
      have HR847_4 := Am hi847_4
      have HC847_4 := Am hl847_4
      clear hi847_4 hl847_4
      replace p847 := eq_true p847
      replace q847 := eq_true q847
      refine start_ (n := 10) (S := fun w' => w'.cell? (ad846.add ((x5_1).toNat * 5)) = some (.int .i64 ((rd_T86 l0 x5_1).f0)) ∧ w'.cell? ⟨(ad846.add ((x5_1).toNat * 5)).block, (ad846.add ((x5_1).toNat * 5)).off + 1, none⟩ = some (.int .i64 ((rd_T86 l0 x5_1).f1)) ∧ w'.cell? ⟨(ad846.add ((x5_1).toNat * 5)).block, (ad846.add ((x5_1).toNat * 5)).off + 2, none⟩ = some (.int .i64 ((rd_T86 l0 x5_1).f2)) ∧ w'.cell? ⟨(ad846.add ((x5_1).toNat * 5)).block, (ad846.add ((x5_1).toNat * 5)).off + 3, none⟩ = some (.slice A846_3 ((rd_T86 l0 x5_1).f3).length c846_3) ∧ w'.cell? ⟨(ad846.add ((x5_1).toNat * 5)).block, (ad846.add ((x5_1).toNat * 5)).off + 4, none⟩ = some (.slice A846_4 ((rd_T86 l0 x5_1).f4).length c846_4) ∧ w'.cell? (ad847.add ((x5_1).toNat * 5)) = some (.int .i64 ((rd_T86 l1 x5_1).f0)) ∧ w'.cell? ⟨(ad847.add ((x5_1).toNat * 5)).block, (ad847.add ((x5_1).toNat * 5)).off + 1, none⟩ = some (.int .i64 ((rd_T86 l1 x5_1).f1)) ∧ w'.cell? ⟨(ad847.add ((x5_1).toNat * 5)).block, (ad847.add ((x5_1).toNat * 5)).off + 2, none⟩ = some (.int .i64 ((rd_T86 l1 x5_1).f2)) ∧ w'.cell? ⟨(ad847.add ((x5_1).toNat * 5)).block, (ad847.add ((x5_1).toNat * 5)).off + 3, none⟩ = some (.slice A847_3 ((rd_T86 l1 x5_1).f3).length c847_3) ∧ w'.cell? ⟨(ad847.add ((x5_1).toNat * 5)).block, (ad847.add ((x5_1).toNat * 5)).off + 4, none⟩ = some (.slice A847_4 ((rd_T86 l1 x5_1).f4).length c847_4)) (ds := []) #[false, false, false, false, false, false, false, false, false, false] (by kernel_rfl) rfl rfl ⟨((HB.out.cell (World.block_lt_of_cell? w _ hw846_0)).trans hw846_0), ((HB.out.cell (World.block_lt_of_cell? w _ hw846_1)).trans hw846_1), ((HB.out.cell (World.block_lt_of_cell? w _ hw846_2)).trans hw846_2), ((HB.out.cell (World.block_lt_of_cell? w _ hw846_3)).trans hw846_3), ((HB.out.cell (World.block_lt_of_cell? w _ hw846_4)).trans hw846_4), ((HB.out.cell (World.block_lt_of_cell? w _ hw847_0)).trans hw847_0), ((HB.out.cell (World.block_lt_of_cell? w _ hw847_1)).trans hw847_1), ((HB.out.cell (World.block_lt_of_cell? w _ hw847_2)).trans hw847_2), ((HB.out.cell (World.block_lt_of_cell? w _ hw847_3)).trans hw847_3), ((HB.out.cell (World.block_lt_of_cell? w _ hw847_4)).trans hw847_4)⟩ (fun hHeld => ?_); refine with_tabW qz.tab6 qz.bits6 (fun HT_ HW_ => ?_)
      generalize wr.drew = w9 at HB HR846_3 HR846_4 HR847_3 HR847_4 hx846_0 hx846_1 hx846_2 hx846_3 hx846_4 hx847_0 hx847_1 hx847_2 hx847_3 hx847_4 hHeld ⊢
      refine pure_ (i := 0) (N := some 17) (v := ?_) (a' := ?_) #[true, false, false, false, false, false, false, false, false, false] rfl rfl (any_of HT_.out (by kernel_rfl)) (fun _ _ _ h => h) (Or.inl ⟨by rfl, ?_⟩) ?_ ?_
      rotate_left
      ·intro w'
       go_simp
       with_reducible rfl
      rotate_left
      ·simp only [Act.put, List.setIfInBounds_toArray, List.set_cons_zero, List.set_cons_succ, i64_w, i32_w]
       rfl
      refine pure_ (i := 1) (N := some 18) (v := ?_) (a' := ?_) #[true, true, false, false, false, false, false, false, false, false] rfl rfl (any_of HT_.out (by kernel_rfl)) (fun _ _ _ h => h) (Or.inl ⟨by rfl, ?_⟩) ?_ ?_
      rotate_left
      ·intro w'
       go_simp
       with_reducible rfl
      rotate_left
      ·simp only [Act.put, List.setIfInBounds_toArray, List.set_cons_zero, List.set_cons_succ, i64_w, i32_w]
       rfl
      refine pure_ (i := 2) (N := some 19) (v := ?_) (a' := ?_) #[true, true, true, false, false, false, false, false, false, false] rfl rfl (any_of HT_.out (by kernel_rfl)) (fun _ _ _ h => h) (Or.inl ⟨by rfl, ?_⟩) ?_ ?_
      rotate_left
      ·intro w'
       go_simp
       with_reducible rfl
      rotate_left
      ·simp only [Act.put, List.setIfInBounds_toArray, List.set_cons_zero, List.set_cons_succ, i64_w, i32_w]
       rfl
      refine pure_ (i := 4) (N := some 21) (v := ?_) (a' := ?_) #[true, true, true, false, true, false, false, false, false, false] rfl rfl (any_of HT_.out (by kernel_rfl)) (fun _ _ _ h => h) (Or.inl ⟨by rfl, ?_⟩) ?_ ?_
      rotate_left
      ·intro w'
       go_simp
       with_reducible rfl
      rotate_left
      ·simp only [Act.put, List.setIfInBounds_toArray, List.set_cons_zero, List.set_cons_succ, i64_w, i32_w]
       rfl
      refine pure_ (i := 5) (N := some 22) (v := ?_) (a' := ?_) #[true, true, true, false, true, true, false, false, false, false] rfl rfl (any_of HT_.out (by kernel_rfl)) (fun _ _ _ h => h) (Or.inl ⟨by rfl, ?_⟩) ?_ ?_
      rotate_left
      ·intro w'
       go_simp
       with_reducible rfl
      rotate_left
      ·simp only [Act.put, List.setIfInBounds_toArray, List.set_cons_zero, List.set_cons_succ, i64_w, i32_w]
       rfl
      refine pure_ (i := 6) (N := some 23) (v := ?_) (a' := ?_) #[true, true, true, false, true, true, true, false, false, false] rfl rfl (any_of HT_.out (by kernel_rfl)) (fun _ _ _ h => h) (Or.inl ⟨by rfl, ?_⟩) ?_ ?_
      rotate_left
      ·intro w'
       go_simp
       with_reducible rfl
      rotate_left
      ·simp only [Act.put, List.setIfInBounds_toArray, List.set_cons_zero, List.set_cons_succ, i64_w, i32_w]
       rfl
      refine take_ (i := 3) (N := some 20) (v := ?_) (a' := ?_) #[true, true, true, true, true, true, true, false, false, false] rfl rfl (take_ofW HT_.out HW_.out (by kernel_rfl)) (fun _ _ _ h => h) (Or.inl ⟨by rfl, ?_⟩) hHeld ?_ ?_
      rotate_left
      ·rintro w' ⟨s0, s1, s2, s3, s4, s5, s6, s7, s8, s9⟩
       go_simp
       with_reducible rfl
      rotate_left
      ·simp only [Act.put, List.setIfInBounds_toArray, List.set_cons_zero, List.set_cons_succ, i64_w, i32_w]
       rfl
      refine take_ (i := 7) (N := some 24) (v := ?_) (a' := ?_) #[true, true, true, true, true, true, true, true, false, false] rfl rfl (take_ofW HT_.out HW_.out (by kernel_rfl)) (fun _ _ _ h => h) (Or.inl ⟨by rfl, ?_⟩) hHeld ?_ ?_
      rotate_left
      ·rintro w' ⟨s0, s1, s2, s3, s4, s5, s6, s7, s8, s9⟩
       go_simp
       with_reducible rfl
      rotate_left
      ·simp only [Act.put, List.setIfInBounds_toArray, List.set_cons_zero, List.set_cons_succ, i64_w, i32_w]
       rfl
      refine one_ (i := 8) (N := some 25) #[true, true, true, true, true, true, true, true, true, false] rfl rfl (one_of HT_.out (by kernel_rfl)) (by decide) (fun K hK => ?_)
      refine goes_ Tryz.func134 (by kernel_rfl) rfl #[.agg #[.int .i64 ((rd_T86 l0 x5_1).f0), .int .i64 ((rd_T86 l0 x5_1).f1), .int .i64 ((rd_T86 l0 x5_1).f2), .slice A846_3 ((rd_T86 l0 x5_1).f3).length c846_3, .slice A846_4 ((rd_T86 l0 x5_1).f4).length c846_4], .agg #[.int .i64 ((rd_T86 l1 x5_1).f0), .int .i64 ((rd_T86 l1 x5_1).f1), .int .i64 ((rd_T86 l1 x5_1).f2), .slice A847_3 ((rd_T86 l1 x5_1).f3).length c847_3, .slice A847_4 ((rd_T86 l1 x5_1).f4).length c847_4]] (by rfl) rfl rfl (by (try simp only [List.map_toArray, List.map_cons, List.map_nil]); rfl) ?_
      with_reducible refine (qy.calls k1 ((rd_T86 l0 x5_1).f0) ((rd_T86 l0 x5_1).f1) ((rd_T86 l0 x5_1).f2) _ _ ((rd_T86 l0 x5_1).f3) _ _ ((rd_T86 l0 x5_1).f4) ((rd_T86 l1 x5_1).f0) ((rd_T86 l1 x5_1).f1) ((rd_T86 l1 x5_1).f2) _ _ ((rd_T86 l1 x5_1).f3) _ _ ((rd_T86 l1 x5_1).f4) true _ ?side1 ?side2 ?side3 ?side4 ?side5 ?side6 ?side7 ?side8 A7.out).mono ?_
      (case side1 => repeat (exact (Kd.C_below HR846_3.out HB.out)))
      (case side2 => exact HC846_3.out)
      (case side3 => repeat (exact (Kd.C_below HR846_4.out HB.out)))
      (case side4 => exact HC846_4.out)
      (case side5 => repeat (exact (Kd.C_below HR847_3.out HB.out)))
      (case side6 => exact HC847_3.out)
      (case side7 => repeat (exact (Kd.C_below HR847_4.out HB.out)))
      (case side8 => exact HC847_4.out)
      rintro e w10 ⟨rfl, hb⟩
      refine ⟨_, rfl, ?_⟩
      replace HB := Am (below_step HB.out hb)
      (try clear hb)
      refine hK.out _ _ ⟨((HB.out.cell (World.block_lt_of_cell? w _ hw846_0)).trans hw846_0), ((HB.out.cell (World.block_lt_of_cell? w _ hw846_1)).trans hw846_1), ((HB.out.cell (World.block_lt_of_cell? w _ hw846_2)).trans hw846_2), ((HB.out.cell (World.block_lt_of_cell? w _ hw846_3)).trans hw846_3), ((HB.out.cell (World.block_lt_of_cell? w _ hw846_4)).trans hw846_4), ((HB.out.cell (World.block_lt_of_cell? w _ hw847_0)).trans hw847_0), ((HB.out.cell (World.block_lt_of_cell? w _ hw847_1)).trans hw847_1), ((HB.out.cell (World.block_lt_of_cell? w _ hw847_2)).trans hw847_2), ((HB.out.cell (World.block_lt_of_cell? w _ hw847_3)).trans hw847_3), ((HB.out.cell (World.block_lt_of_cell? w _ hw847_4)).trans hw847_4)⟩ (fun hHeld => ?_)
      clear hK K
      refine norm_ (a' := ?_) ?_ ?_
      rotate_left
      ·show Act.put _ (some 25) _ = _
       simp only [Act.put, List.setIfInBounds_toArray, List.set_cons_zero, List.set_cons_succ, i64_w, i32_w]
       rfl
      refine pure_ (i := 9) (N := some 26) (v := ?_) (a' := ?_) #[true, true, true, true, true, true, true, true, true, true] rfl rfl (any_of HT_.out (by kernel_rfl)) (fun _ _ _ h => h) (Or.inl ⟨by rfl, ?_⟩) ?_ ?_
      rotate_left
      ·intro w'
       go_simp
       with_reducible rfl
      rotate_left
      ·simp only [Act.put, List.setIfInBounds_toArray, List.set_cons_zero, List.set_cons_succ, i64_w, i32_w]
       rfl
      refine done_ (done_of HT_.out (by kernel_rfl)) ?_
      try go_wp2
      go_roundg k1
      case measure => have := HK1.out; omega
      case rel => exact ⟨(wrap64 (x5_1 + 1)), (by rfl), H', ⟨by have := HK1.out; omega⟩, ⟨HB.out⟩⟩
     ·replace c8 := Bool.eq_false_iff.mpr c8
      subst c8
      have H1 : (some false) = some true := by rw [if_neg (show ¬ (false = true) by decide)] at H; exact H
      clear H
      have H := H1
      clear H1
      exact absurd (Option.some.inj H) (by decide)
    ·rw [if_neg c4] at H
     have c4b0 : decide (x5_1 < (l0.length : Int)) = false := decide_eq_false c4
     clear c4 H
     go_wp2
     go_ret
     exact ⟨by rfl, HB.out⟩
 ·rw [if_neg c3] at H
  have c3b0 : ((l0.length : Int) == (l1.length : Int)) = false := beq_eq_false_iff_ne.mpr c3
  have c3b1 : ((l0.length : Int) != (l1.length : Int)) = true := bne_iff_ne.mpr c3
  have c3b2 : (l0.length == l1.length) = false := by (simp at c3 ⊢; omega)
  exact absurd (Option.some.inj H) (by decide)
def qx.f (k : Nat) (l0_0 : List (S86)) (l0_1 : List (List Int)) (l1_0 : List (S86)) (l1_1 : List (List Int)) : Option (Bool) := (qz.f k l0_0 l1_0).bind fun t856 => (if t856 = true then ((qu.f k l0_1 l1_1).bind fun t857 => (if t857 = true then (some true) else (some false))) else (some false))
theorem qx.mono : ∀ a0 a1 a2 a3 k, LeO (qx.f k a0 a1 a2 a3) (qx.f (k + 1) a0 a1 a2 a3) := by
 intro a0 a1 a2 a3 k
 unfold qx.f
 repeat' first | (with_reducible exact qu.mono _ _ _) | (with_reducible exact qz.mono _ _ _) | (with_reducible exact LeO.refl _) | (with_reducible refine LeO.ite ?_ ?_) | (with_reducible refine LeO.bind ?_ (fun _ => ?_))
set_option maxHeartbeats 8000000 in
set_option maxRecDepth 100000 in
theorem qx.calls (k : Nat) (A0_0 : Option Addr) (c0_0 : Nat) (l0_0 : List (S86)) (A0_1 : Option Addr) (c0_1 : Nat) (l0_1 : List (List Int)) (A1_0 : Option Addr) (c1_0 : Nat) (l1_0 : List (S86)) (A1_1 : Option Addr) (c1_1 : Nat) (l1_1 : List (List Int)) (r : Bool) (w : World) (hr0_0 : Kd.C k86 w A0_0 l0_0.length l0_0) (hc0_0 : l0_0.length ≤ c0_0) (hr0_1 : Kd.C (Kd.slice 5 (Kd.int .u8)) w A0_1 l0_1.length l0_1) (hc0_1 : l0_1.length ≤ c0_1) (hr1_0 : Kd.C k86 w A1_0 l1_0.length l1_0) (hc1_0 : l1_0.length ≤ c1_0) (hr1_1 : Kd.C (Kd.slice 5 (Kd.int .u8)) w A1_1 l1_1.length l1_1) (hc1_1 : l1_1.length ≤ c1_1) (h : qx.f k l0_0 l0_1 l1_0 l1_1 = some true) :
  Calls Tryz.prog 22 #[.agg #[.slice A0_0 l0_0.length c0_0, .slice A0_1 l0_1.length c0_1], .agg #[.slice A1_0 l1_0.length c1_0, .slice A1_1 l1_1.length c1_1]] w fun e w' => e = .returned (.bool true) ∧ Below w.heap.size w w' := by
 have hu28 := Tryz.underlying28
 have HR0_0 := Am hr0_0
 have HC0_0 := Am hc0_0
 clear hr0_0 hc0_0
 have HR0_1 := Am hr0_1
 have HC0_1 := Am hc0_1
 clear hr0_1 hc0_1
 have HR1_0 := Am hr1_0
 have HC1_0 := Am hc1_0
 clear hr1_0 hc1_0
 have HR1_1 := Am hr1_1
 have HC1_1 := Am hc1_1
 clear hr1_1 hc1_1
 have HB := Am (Below.refl w.heap.size w)
 have H : ((qz.f k l0_0 l1_0).bind fun t856 => (if t856 = true then ((qu.f k l0_1 l1_1).bind fun t857 => (if t857 = true then (some true) else (some false))) else (some false))) = some true := h
 clear h
 replace H := zbs H
 obtain ⟨t856, A3, H⟩ := H
 by_cases c4 : t856 = true
 ·subst c4
  have H1 : ((qu.f k l0_1 l1_1).bind fun t857 => (if t857 = true then (some true) else (some false))) = some true := by rw [if_pos rfl] at H; exact H
  clear H
  have H := H1
  clear H1
  replace H := zbs H
  obtain ⟨t857, A5, H⟩ := H
  by_cases c6 : t857 = true
  ·subst c6
   have H1 : (some true) = some true := rfl
   clear H
   have H := H1
   clear H1 H
   go_enter Tryz.func22, Tryz.ntmps22
   go_wp2_with (first | ((with_reducible refine gate_dst (N := 2) rfl ?_); refine box_event ?hg (N := 2) ?hd (cs := #[.slice A0_0 l0_0.length c0_0, .slice A0_1 l0_1.length c0_1]) (t := 28) ?hr ?_; (case hd => rfl); (case hg => rfl); (case hr => (go_simp; done)); intro gb854 hg w7 hbox hb; have BK854 := Am hbox; have GW854 := Am ((nge hg HB.out)); have GE854 := Am ((nge hg HB.out)); replace HB := Am (below_step HB.out hb); clear hb hbox hg) | ((with_reducible refine gate_dst (N := 3) rfl ?_); refine box_event ?hg (N := 3) ?hd (cs := #[.slice A1_0 l1_0.length c1_0, .slice A1_1 l1_1.length c1_1]) (t := 28) ?hr ?_; (case hd => rfl); (case hg => rfl); (case hr => (go_simp; done)); intro gb855 hg w8 hbox hb; have BK855 := Am hbox; have GW855 := Am ((nge hg HB.out)); have GE855 := Am ((nge hg HB.out)); replace HB := Am (below_step HB.out hb); have NB854_855 := Am ((nlt hg (g := gb854) (o := .cells #[.slice A0_0 l0_0.length c0_0, .slice A0_1 l0_1.length c0_1] 28 (0, 0)) BK854.out)); have NB855_854 := Am ((ngt hg (g := gb854) (o := .cells #[.slice A0_0 l0_0.length c0_0, .slice A0_1 l0_1.length c0_1] 28 (0, 0)) BK854.out)); replace BK854 := Am (blk_below BK854.out hb); clear hb hbox hg; have hnb9 := NB854_855.out; have hnc9 := NB855_854.out; obtain ⟨hcz10_0, hcz10_1, hfz10_0, hfz10_1⟩ := cb2 BK854.out; obtain ⟨hcz11_0, hcz11_1, hfz11_0, hfz11_1⟩ := cb2 BK855.out) | ((with_reducible refine gate_callee (f := 65) rfl ?_); refine goesL_ (some 9) rfl rfl Tryz.func65 (by kernel_rfl) rfl #[.slice A0_0 l0_0.length c0_0, .slice A1_0 l1_0.length c1_0] rfl (by (try simp only [List.map_toArray, List.map_cons, List.map_nil]); rfl) ?_; (with_reducible refine (qz.calls k _ _ l0_0 _ _ l1_0 true _ ?side1 ?side2 ?side3 ?side4 A3.out).mono ?_); (case side1 => repeat (exact (Kd.C_below HR0_0.out HB.out))); (case side2 => exact HC0_0.out); (case side3 => repeat (exact (Kd.C_below HR1_0.out HB.out))); (case side4 => exact HC1_0.out); rintro e w12 ⟨rfl, hb⟩; refine ⟨_, rfl, ?_⟩; replace BK854 := Am (blk_below BK854.out hb); replace BK855 := Am (blk_below BK855.out hb); replace HB := Am (below_step HB.out hb); (try clear hb); obtain ⟨hcz13_0, hcz13_1, hfz13_0, hfz13_1⟩ := cb2 BK854.out; obtain ⟨hcz14_0, hcz14_1, hfz14_0, hfz14_1⟩ := cb2 BK855.out) | ((with_reducible refine gate_callee (f := 66) rfl ?_); refine goesL_ (some 15) rfl rfl Tryz.func66 (by kernel_rfl) rfl #[.slice A0_1 l0_1.length c0_1, .slice A1_1 l1_1.length c1_1] rfl (by (try simp only [List.map_toArray, List.map_cons, List.map_nil]); rfl) ?_; (with_reducible refine (qu.calls k _ _ l0_1 _ _ l1_1 true _ ?side1 ?side2 ?side3 ?side4 A5.out).mono ?_); (case side1 => repeat (exact (Kd.C_below HR0_1.out HB.out))); (case side2 => exact HC0_1.out); (case side3 => repeat (exact (Kd.C_below HR1_1.out HB.out))); (case side4 => exact HC1_1.out); rintro e w' ⟨rfl, ⟨nd, rfl⟩⟩; refine ⟨_, rfl, ?_⟩))
   go_ret
   exact ⟨by rfl, by repeat ((with_reducible first | exact HB.out | apply pw_below_drewN))⟩
  ·replace c6 := Bool.eq_false_iff.mpr c6
   subst c6
   have H1 : (some false) = some true := by rw [if_neg (show ¬ (false = true) by decide)] at H; exact H
   clear H
   have H := H1
   clear H1
   exact absurd (Option.some.inj H) (by decide)
 ·replace c4 := Bool.eq_false_iff.mpr c4
  subst c4
  have H1 : (some false) = some true := by rw [if_neg (show ¬ (false = true) by decide)] at H; exact H
  clear H
  have H := H1
  clear H1
  exact absurd (Option.some.inj H) (by decide)
def q11.f (a0_0 : Int) (a0_1 : ByteArray) (a1_0 : Int) (a1_1 : ByteArray) : Option (Bool) := if a0_0 = a1_0 then (if a0_1.toList = a1_1.toList then (some true) else (some false)) else (some false)
set_option maxHeartbeats 8000000 in
set_option maxRecDepth 100000 in
theorem q11.calls (a0_0 : Int) (a0_1 : ByteArray) (a1_0 : Int) (a1_1 : ByteArray) (r : Bool) (w : World) (h : q11.f a0_0 a0_1 a1_0 a1_1 = some true) :
  Calls Tryz.prog 21 #[.agg #[.int .i64 a0_0, .string a0_1], .agg #[.int .i64 a1_0, .string a1_1]] w fun e w' => e = .returned (.bool true) ∧ Below w.heap.size w w' := by
 have hu48 := Tryz.underlying48
 have HB := Am (Below.refl w.heap.size w)
 have H : (if a0_0 = a1_0 then (if a0_1.toList = a1_1.toList then (some true) else (some false)) else (some false)) = some true := h
 clear h
 by_cases c3 : a0_0 = a1_0
 ·rw [if_pos c3] at H
  have c3b0 : (a0_0 == a1_0) = true := beq_iff_eq.mpr c3
  have c3b1 : (a0_0 != a1_0) = false := bne_eq_false_iff_eq.mpr c3
  clear c3
  by_cases c4 : a0_1.toList = a1_1.toList
  ·rw [if_pos c4] at H
   have c4b0 : (a0_1.toList == a1_1.toList) = true := beq_iff_eq.mpr c4
   have c4b1 : (a0_1.toList != a1_1.toList) = false := bne_eq_false_iff_eq.mpr c4
   clear c4 H
   go_enter Tryz.func21, Tryz.ntmps21
   go_wp2_with (first | ((with_reducible refine gate_dst (N := 2) rfl ?_); refine box_event ?hg (N := 2) ?hd (cs := #[.int .i64 a0_0, .string a0_1]) (t := 48) ?hr ?_; (case hd => rfl); (case hg => rfl); (case hr => (go_simp; done)); intro gb833 hg w5 hbox hb; have BK833 := Am hbox; have GW833 := Am ((nge hg HB.out)); have GE833 := Am ((nge hg HB.out)); replace HB := Am (below_step HB.out hb); clear hb hbox hg) | ((with_reducible refine gate_dst (N := 3) rfl ?_); refine box_event ?hg (N := 3) ?hd (cs := #[.int .i64 a1_0, .string a1_1]) (t := 48) ?hr ?_; (case hd => rfl); (case hg => rfl); (case hr => (go_simp; done)); intro gb834 hg w6 hbox hb; have BK834 := Am hbox; have GW834 := Am ((nge hg HB.out)); have GE834 := Am ((nge hg HB.out)); replace HB := Am (below_step HB.out hb); have NB833_834 := Am ((nlt hg (g := gb833) (o := .cells #[.int .i64 a0_0, .string a0_1] 48 (0, 0)) BK833.out)); have NB834_833 := Am ((ngt hg (g := gb833) (o := .cells #[.int .i64 a0_0, .string a0_1] 48 (0, 0)) BK833.out)); replace BK833 := Am (blk_below BK833.out hb); clear hb hbox hg; have hnb7 := NB833_834.out; have hnc7 := NB834_833.out; obtain ⟨hcz8_0, hcz8_1, hfz8_0, hfz8_1⟩ := cb2 BK833.out; obtain ⟨hcz9_0, hcz9_1, hfz9_0, hfz9_1⟩ := cb2 BK834.out))
   go_ret
   exact ⟨by rfl, HB.out⟩
  ·rw [if_neg c4] at H
   have c4b0 : (a0_1.toList == a1_1.toList) = false := beq_eq_false_iff_ne.mpr c4
   have c4b1 : (a0_1.toList != a1_1.toList) = true := bne_iff_ne.mpr c4
   exact absurd (Option.some.inj H) (by decide)
 ·rw [if_neg c3] at H
  have c3b0 : (a0_0 == a1_0) = false := beq_eq_false_iff_ne.mpr c3
  have c3b1 : (a0_0 != a1_0) = true := bne_iff_ne.mpr c3
  exact absurd (Option.some.inj H) (by decide)
end Go.Proofs.YtafhjhdohclchaaGreatDoor.G
namespace Go.Proofs.YtafhjhdohclchaaGreatDoor.G
open Go.RowKit Go.Proofs.YtafhjhdohclchaaGreatDoorW.PrintWords Go.Proofs.YtafhjhdohclchaaGreatDoorW.PrintLast Go.Proofs.YtafhjhdohclchaaGreatDoorW.PrintMore
attribute [local go_sem] min2_int min_two
/-- how far the lists of an argument may reach: what each Go slice says of itself -/
def Big (n : Nat) : Prop := n ≤ 9223372036854775807
def cE (e : S267) : S143 := ⟨e.f0, e.f1⟩
def cI (x : S159) : S86 := ⟨x.f0, x.f1, x.f2, x.f3, x.f4.map cE⟩
theorem rdE7_eq (xs : List S267) (i : Nat) (h : i < xs.length) : rd_T267 xs (i : Int) = xs[i] := by simp [rd_T267, List.getD_eq_getElem?_getD, List.getElem?_eq_getElem h]
theorem rdI9_eq (xs : List S159) (i : Nat) (h : i < xs.length) : rd_T159 xs (i : Int) = xs[i] := by simp [rd_T159, List.getD_eq_getElem?_getD, List.getElem?_eq_getElem h]
/-- one list taken off what is left -/
theorem left_w (a : Int) (n : Nat) (h0 : 0 ≤ a) (h1 : a ≤ 1048576) (hn : Big n) : wrap64 (a - (n : Int)) = a - n := w64_id _ (by unfold Big at hn; omega) (by omega)
/-- what is left behind a count: -1, or a number from which all was taken -/
def Left (a t : Int) (P : Prop) : Prop := (t = -1) ∨ (0 ≤ t ∧ t ≤ a ∧ P)
section
variable {a : Int} (h0 : 0 ≤ a) (h1 : a ≤ 1048576)
include h0 h1
theorem szByteS_ev (l : List Int) (hl : Big l.length) : ∃ t, q12.f l a = some t ∧ Left a t (l.length ≤ 1048576) := by
  unfold q12.f
  rw [left_w a _ h0 h1 hl]
  by_cases h : a - (l.length : Int) < 0
  · exact ⟨-1, by rw [if_pos h], .inl rfl⟩
  · exact ⟨a - l.length, by rw [if_neg h], .inr ⟨by omega, by omega, by omega⟩⟩
theorem szInt64S_ev (l : List Int) (hl : Big l.length) : ∃ t, q19.f l a = some t ∧ Left a t (l.length ≤ 1048576) := by
  unfold q19.f
  rw [left_w a _ h0 h1 hl]
  by_cases h : a - (l.length : Int) < 0
  · exact ⟨-1, by rw [if_pos h], .inl rfl⟩
  · exact ⟨a - l.length, by rw [if_neg h], .inr ⟨by omega, by omega, by omega⟩⟩
theorem szEntry_ev (s : ByteArray) (n : Int) (hl : Big s.size) : ∃ t, q14.f s n a = some t ∧ Left a t (s.size ≤ 1048576) := by
  unfold q14.f
  rw [left_w a _ h0 h1 hl]
  by_cases h : a - (s.size : Int) < 0
  · exact ⟨-1, by rw [if_pos h], .inl rfl⟩
  · exact ⟨a - s.size, by rw [if_neg h], .inr ⟨by omega, by omega, by omega⟩⟩
end
theorem szEntryS_loop (es : List S267) (hs : ∀ e ∈ es, Big e.f0.size) (h20 : es.length ≤ 1048576) : ∀ (d i : Nat) (a : Int), es.length = i + d → 0 ≤ a → a ≤ 1048576 →
    ∃ t, Ev (fun k => q15.l0 k es a (i : Int)) t ∧ Left a t (∀ e ∈ es.drop i, e.f0.size ≤ 1048576) := by
  intro d
  induction d with
  | zero =>
    intro i a hd h0 h1
    refine ⟨a, Ev.step (fun k => q15.l0.eq_2 ..) (Ev.im (by omega) (Ev.now _)), .inr ⟨h0, by omega, fun e he => ?_⟩⟩
    rw [List.drop_of_length_le (by omega)] at he; cases he
  | succ d ih =>
    intro i a hd h0 h1
    have hi : i < es.length := by omega
    have hx := rdE7_eq es i hi
    obtain ⟨t, ht, hL⟩ := szEntry_ev h0 h1 (rd_T267 es (i : Int)).f0 (rd_T267 es (i : Int)).f1 (by rw [hx]; exact hs _ (List.getElem_mem hi))
    rcases hL with rfl | ⟨ht0, ht1, hP⟩
    · exact ⟨-1, Ev.step (fun k => q15.l0.eq_2 ..) (Ev.ip (by omega) (Ev.ip (by omega) (Ev.bind (Ev.val fun _ => ht) (Ev.ip (by omega) (Ev.now _))))), .inl rfl⟩
    · obtain ⟨u, hu, hU⟩ := ih (i + 1) t (by omega) ht0 (by omega)
      rw [← w1 i (by omega)] at hu
      refine ⟨u, Ev.step (fun k => q15.l0.eq_2 ..) (Ev.ip (by omega) (Ev.ip (by omega) (Ev.bind (Ev.val fun _ => ht) (Ev.im (by omega) hu)))), ?_⟩
      rcases hU with rfl | ⟨hu0, hu1, hQ⟩
      · exact .inl rfl
      · refine .inr ⟨hu0, by omega, fun e he => ?_⟩
        rw [List.drop_eq_getElem_cons hi] at he
        rcases List.mem_cons.1 he with rfl | he
        · rw [← hx]; exact hP
        · exact hQ e he
theorem szEntryS_ev (es : List S267) (hb : Big es.length) (hs : ∀ e ∈ es, Big e.f0.size) (a : Int) (h0 : 0 ≤ a) (h1 : a ≤ 1048576) :
    ∃ t, Ev (fun k => q15.f k es a) t ∧ Left a t (es.length ≤ 1048576 ∧ ∀ e ∈ es, e.f0.size ≤ 1048576) := by
  unfold q15.f
  simp only [left_w a _ h0 h1 hb]
  by_cases h : a - (es.length : Int) < 0
  · exact ⟨-1, Ev.ip h (Ev.now _), .inl rfl⟩
  · obtain ⟨t, ht, hL⟩ := szEntryS_loop es hs (by omega) es.length 0 (a - es.length) (by omega) (by omega) (by omega)
    refine ⟨t, Ev.im h ht, ?_⟩
    rcases hL with rfl | ⟨ht0, ht1, hP⟩
    · exact .inl rfl
    · exact .inr ⟨ht0, by omega, by omega, by simpa using hP⟩
/-- what a Go inode says of its lists -/
structure BigI (x : S159) : Prop where
  bl : Big x.f3.length
  es : Big x.f4.length
  nm : ∀ e ∈ x.f4, Big e.f0.size
theorem SzI_c {x : S159} (h3 : x.f3.length ≤ 1048576) (h4 : x.f4.length ≤ 1048576) (hn : ∀ e ∈ x.f4, e.f0.size ≤ 1048576) : SzI (cI x) := by
  refine ⟨h3, by simpa [cI] using h4, fun e he => ?_⟩
  obtain ⟨q, hq, rfl⟩ := List.mem_map.1 he
  exact hn q hq
theorem szInode_ev (x : S159) (hb : BigI x) (a : Int) (h0 : 0 ≤ a) (h1 : a ≤ 1048576) : ∃ t, Ev (fun k => q17.f k x.f0 x.f1 x.f2 x.f3 x.f4 a) t ∧ Left a t (SzI (cI x)) := by
  unfold q17.f
  obtain ⟨t, ht, hL⟩ := szInt64S_ev h0 h1 x.f3 hb.bl
  rcases hL with rfl | ⟨ht0, ht1, hP⟩
  · exact ⟨-1, Ev.bind (Ev.val fun _ => ht) (Ev.ip (by omega) (Ev.now _)), .inl rfl⟩
  · obtain ⟨u, hu, hU⟩ := szEntryS_ev x.f4 hb.es hb.nm t ht0 (by omega)
    rcases hU with rfl | ⟨hu0, hu1, hQ⟩
    · exact ⟨-1, Ev.bind (Ev.val fun _ => ht) (Ev.im (by omega) (Ev.bind hu (Ev.ip (by omega) (Ev.now _)))), .inl rfl⟩
    · exact ⟨u, Ev.bind (Ev.val fun _ => ht) (Ev.im (by omega) (Ev.bind hu (Ev.im (by omega) (Ev.now _)))), .inr ⟨hu0, by omega, SzI_c hP hQ.1 hQ.2⟩⟩
theorem szInodeS_loop (xs : List S159) (hs : ∀ x ∈ xs, BigI x) (h20 : xs.length ≤ 1048576) : ∀ (d i : Nat) (a : Int), xs.length = i + d → 0 ≤ a → a ≤ 1048576 →
    ∃ t, Ev (fun k => q18.l0 k xs a (i : Int)) t ∧ Left a t (∀ x ∈ xs.drop i, SzI (cI x)) := by
  intro d
  induction d with
  | zero =>
    intro i a hd h0 h1
    refine ⟨a, Ev.step (fun k => q18.l0.eq_2 ..) (Ev.im (by omega) (Ev.now _)), .inr ⟨h0, by omega, fun e he => ?_⟩⟩
    rw [List.drop_of_length_le (by omega)] at he; cases he
  | succ d ih =>
    intro i a hd h0 h1
    have hi : i < xs.length := by omega
    have hx := rdI9_eq xs i hi
    obtain ⟨t, ht, hL⟩ := szInode_ev (rd_T159 xs (i : Int)) (by rw [hx]; exact hs _ (List.getElem_mem hi)) a h0 h1
    rcases hL with rfl | ⟨ht0, ht1, hP⟩
    · exact ⟨-1, Ev.step (fun k => q18.l0.eq_2 ..) (Ev.ip (by omega) (Ev.ip (by omega) (Ev.bind ht (Ev.ip (by omega) (Ev.now _))))), .inl rfl⟩
    · obtain ⟨u, hu, hU⟩ := ih (i + 1) t (by omega) ht0 (by omega)
      rw [← w1 i (by omega)] at hu
      refine ⟨u, Ev.step (fun k => q18.l0.eq_2 ..) (Ev.ip (by omega) (Ev.ip (by omega) (Ev.bind ht (Ev.im (by omega) hu)))), ?_⟩
      rcases hU with rfl | ⟨hu0, hu1, hQ⟩
      · exact .inl rfl
      · refine .inr ⟨hu0, by omega, fun e he => ?_⟩
        rw [List.drop_eq_getElem_cons hi] at he
        rcases List.mem_cons.1 he with rfl | he
        · rw [← hx]; exact hP
        · exact hQ e he
theorem szInodeS_ev (xs : List S159) (hb : Big xs.length) (hs : ∀ x ∈ xs, BigI x) (a : Int) (h0 : 0 ≤ a) (h1 : a ≤ 1048576) :
    ∃ t, Ev (fun k => q18.f k xs a) t ∧ Left a t (xs.length ≤ 1048576 ∧ ∀ x ∈ xs, SzI (cI x)) := by
  unfold q18.f
  simp only [left_w a _ h0 h1 hb]
  by_cases h : a - (xs.length : Int) < 0
  · exact ⟨-1, Ev.ip h (Ev.now _), .inl rfl⟩
  · obtain ⟨t, ht, hL⟩ := szInodeS_loop xs hs (by omega) xs.length 0 (a - xs.length) (by omega) (by omega) (by omega)
    refine ⟨t, Ev.im h ht, ?_⟩
    rcases hL with rfl | ⟨ht0, ht1, hP⟩
    · exact .inl rfl
    · exact .inr ⟨ht0, by omega, by omega, by simpa using hP⟩
theorem szByteSS_loop (xs : List (List Int)) (hs : ∀ x ∈ xs, Big x.length) (h20 : xs.length ≤ 1048576) : ∀ (d i : Nat) (a : Int), xs.length = i + d → 0 ≤ a → a ≤ 1048576 →
    ∃ t, Ev (fun k => q13.l0 k xs a (i : Int)) t ∧ Left a t (∀ x ∈ xs.drop i, x.length ≤ 1048576) := by
  intro d
  induction d with
  | zero =>
    intro i a hd h0 h1
    refine ⟨a, Ev.step (fun k => q13.l0.eq_2 ..) (Ev.im (by omega) (Ev.now _)), .inr ⟨h0, by omega, fun e he => ?_⟩⟩
    rw [List.drop_of_length_le (by omega)] at he; cases he
  | succ d ih =>
    intro i a hd h0 h1
    have hi : i < xs.length := by omega
    have hx := rdL_eq xs i hi
    obtain ⟨t, ht, hL⟩ := szByteS_ev h0 h1 (rd_L1 xs (i : Int)) (by rw [hx]; exact hs _ (List.getElem_mem hi))
    rcases hL with rfl | ⟨ht0, ht1, hP⟩
    · exact ⟨-1, Ev.step (fun k => q13.l0.eq_2 ..) (Ev.ip (by omega) (Ev.ip (by omega) (Ev.bind (Ev.val fun _ => ht) (Ev.ip (by omega) (Ev.now _))))), .inl rfl⟩
    · obtain ⟨u, hu, hU⟩ := ih (i + 1) t (by omega) ht0 (by omega)
      rw [← w1 i (by omega)] at hu
      refine ⟨u, Ev.step (fun k => q13.l0.eq_2 ..) (Ev.ip (by omega) (Ev.ip (by omega) (Ev.bind (Ev.val fun _ => ht) (Ev.im (by omega) hu)))), ?_⟩
      rcases hU with rfl | ⟨hu0, hu1, hQ⟩
      · exact .inl rfl
      · refine .inr ⟨hu0, by omega, fun e he => ?_⟩
        rw [List.drop_eq_getElem_cons hi] at he
        rcases List.mem_cons.1 he with rfl | he
        · rw [← hx]; exact hP
        · exact hQ e he
theorem szByteSS_ev (xs : List (List Int)) (hb : Big xs.length) (hs : ∀ x ∈ xs, Big x.length) (a : Int) (h0 : 0 ≤ a) (h1 : a ≤ 1048576) :
    ∃ t, Ev (fun k => q13.f k xs a) t ∧ Left a t (xs.length ≤ 1048576 ∧ ∀ x ∈ xs, x.length ≤ 1048576) := by
  unfold q13.f
  simp only [left_w a _ h0 h1 hb]
  by_cases h : a - (xs.length : Int) < 0
  · exact ⟨-1, Ev.ip h (Ev.now _), .inl rfl⟩
  · obtain ⟨t, ht, hL⟩ := szByteSS_loop xs hs (by omega) xs.length 0 (a - xs.length) (by omega) (by omega) (by omega)
    refine ⟨t, Ev.im h ht, ?_⟩
    rcases hL with rfl | ⟨ht0, ht1, hP⟩
    · exact .inl rfl
    · exact .inr ⟨ht0, by omega, by omega, by simpa using hP⟩
/-- what a Go file system says of its lists -/
structure BigF (ins : List S159) (data : List (List Int)) : Prop where
  il : Big ins.length
  io : ∀ x ∈ ins, BigI x
  dl : Big data.length
  dd : ∀ x ∈ data, Big x.length
structure SzF (ins : List S159) (data : List (List Int)) : Prop where
  il : ins.length ≤ 1048576
  io : ∀ x ∈ ins, SzI (cI x)
  dl : data.length ≤ 1048576
  dd : ∀ x ∈ data, x.length ≤ 1048576
theorem szFs_ev (ins : List S159) (data : List (List Int)) (hb : BigF ins data) (a : Int) (h0 : 0 ≤ a) (h1 : a ≤ 1048576) : ∃ t, Ev (fun k => q16.f k ins data a) t ∧ Left a t (SzF ins data) := by
  unfold q16.f
  obtain ⟨t, ht, hL⟩ := szInodeS_ev ins hb.il hb.io a h0 h1
  rcases hL with rfl | ⟨ht0, ht1, hP⟩
  · exact ⟨-1, Ev.bind ht (Ev.ip (by omega) (Ev.now _)), .inl rfl⟩
  · obtain ⟨u, hu, hU⟩ := szByteSS_ev data hb.dl hb.dd t ht0 (by omega)
    rcases hU with rfl | ⟨hu0, hu1, hQ⟩
    · exact ⟨-1, Ev.bind ht (Ev.im (by omega) (Ev.bind hu (Ev.ip (by omega) (Ev.now _)))), .inl rfl⟩
    · exact ⟨u, Ev.bind ht (Ev.im (by omega) (Ev.bind hu (Ev.im (by omega) (Ev.now _)))), .inr ⟨hu0, by omega, ⟨hP.1, hP.2, hQ.1, hQ.2⟩⟩⟩
theorem set_take {α : Type} (l : List α) (i : Nat) (v : α) (h : i < l.length) : (l.set i v).take (i + 1) = l.take i ++ [v] := by
  rw [List.take_succ_eq_append_getElem (by simpa using h)]
  congr 1
  · rw [List.take_set_of_le (Nat.le_refl _)]
  · simp
theorem toInt64S_loop (xs : List Int) (hl : xs.length ≤ 1048576) : ∀ (d i : Nat) (ys : List Int), xs.length = i + d → ys.length = xs.length → ys.take i = xs.take i → Ev (fun k => q1h.l0 k xs ys (i : Int)) xs := by
  intro d
  induction d with
  | zero =>
    intro i ys hd hy ht
    have e : ys = xs := by rw [List.take_of_length_le (by omega), List.take_of_length_le (by omega)] at ht; exact ht
    subst e
    exact Ev.step (fun k => q1h.l0.eq_2 ..) (Ev.im (by omega) (Ev.now _))
  | succ d ih =>
    intro i ys hd hy ht
    have hi : i < xs.length := by omega
    have := ih (i + 1) (ys.set (i : Int).toNat (rd xs (i : Int))) (by omega) (by simp [hy]) (by
      rw [Int.toNat_natCast, set_take _ _ _ (by omega), ht, rd_eq xs i hi, List.take_succ_eq_append_getElem hi])
    rw [← w1 i (by omega)] at this
    exact Ev.step (fun k => q1h.l0.eq_2 ..) (Ev.ip (by omega) (Ev.ip (by omega) (Ev.ip (by omega) this)))
theorem toInt64S_ev (xs : List Int) (hl : xs.length ≤ 1048576) : Ev (fun k => q1h.f k xs) xs := by
  unfold q1h.f
  exact Ev.ip (by omega) (Ev.ip (by omega) (toInt64S_loop xs hl xs.length 0 _ (by omega) (by simp) (by simp)))
theorem toByteS_loop (xs : List Int) (hl : xs.length ≤ 1048576) : ∀ (d i : Nat) (ys : List Int), xs.length = i + d → ys.length = xs.length → ys.take i = xs.take i → Ev (fun k => q1a.l0 k xs ys (i : Int)) xs := by
  intro d
  induction d with
  | zero =>
    intro i ys hd hy ht
    have e : ys = xs := by rw [List.take_of_length_le (by omega), List.take_of_length_le (by omega)] at ht; exact ht
    subst e
    exact Ev.step (fun k => q1a.l0.eq_2 ..) (Ev.im (by omega) (Ev.now _))
  | succ d ih =>
    intro i ys hd hy ht
    have hi : i < xs.length := by omega
    have := ih (i + 1) (ys.set (i : Int).toNat (rd xs (i : Int))) (by omega) (by simp [hy]) (by
      rw [Int.toNat_natCast, set_take _ _ _ (by omega), ht, rd_eq xs i hi, List.take_succ_eq_append_getElem hi])
    rw [← w1 i (by omega)] at this
    exact Ev.step (fun k => q1a.l0.eq_2 ..) (Ev.ip (by omega) (Ev.ip (by omega) (Ev.ip (by omega) this)))
theorem toByteS_ev (xs : List Int) (hl : xs.length ≤ 1048576) : Ev (fun k => q1a.f k xs) xs := by
  unfold q1a.f
  exact Ev.ip (by omega) (Ev.ip (by omega) (toByteS_loop xs hl xs.length 0 _ (by omega) (by simp) (by simp)))
theorem toByteSS_loop (xs : List (List Int)) (hl : xs.length ≤ 1048576) (hs : ∀ x ∈ xs, x.length ≤ 1048576) : ∀ (d i : Nat) (ys : List (List Int)), xs.length = i + d → ys.length = xs.length → ys.take i = xs.take i → Ev (fun k => q1b.l0 k xs ys (i : Int)) xs := by
  intro d
  induction d with
  | zero =>
    intro i ys hd hy ht
    have e : ys = xs := by rw [List.take_of_length_le (by omega), List.take_of_length_le (by omega)] at ht; exact ht
    subst e
    exact Ev.step (fun k => q1b.l0.eq_2 ..) (Ev.im (by omega) (Ev.now _))
  | succ d ih =>
    intro i ys hd hy ht
    have hi : i < xs.length := by omega
    have hx := rdL_eq xs i hi
    have hb := toByteS_ev (rd_L1 xs (i : Int)) (by rw [hx]; exact hs _ (List.getElem_mem hi))
    have := ih (i + 1) (ys.set (i : Int).toNat (rd_L1 xs (i : Int))) (by omega) (by simp [hy]) (by
      rw [Int.toNat_natCast, set_take _ _ _ (by omega), ht, hx, List.take_succ_eq_append_getElem hi])
    rw [← w1 i (by omega)] at this
    exact Ev.step (fun k => q1b.l0.eq_2 ..) (Ev.ip (by omega) (Ev.ip (by omega) (Ev.bind hb (Ev.ip (by omega) this))))
theorem toByteSS_ev (xs : List (List Int)) (hl : xs.length ≤ 1048576) (hs : ∀ x ∈ xs, x.length ≤ 1048576) : Ev (fun k => q1b.f k xs) xs := by
  unfold q1b.f
  exact Ev.ip (by omega) (Ev.ip (by omega) (toByteSS_loop xs hl hs xs.length 0 _ (by omega) (by simp) (by simp)))
theorem toEntryS_loop (xs : List S267) (hl : xs.length ≤ 1048576) : ∀ (d i : Nat) (ys : List S143), xs.length = i + d → ys.length = xs.length → ys.take i = (xs.take i).map cE → Ev (fun k => q1d.l0 k xs ys (i : Int)) (xs.map cE) := by
  intro d
  induction d with
  | zero =>
    intro i ys hd hy ht
    have e : ys = xs.map cE := by rw [List.take_of_length_le (by omega), List.take_of_length_le (by omega)] at ht; exact ht
    subst e
    exact Ev.step (fun k => q1d.l0.eq_2 ..) (Ev.im (by omega) (Ev.now _))
  | succ d ih =>
    intro i ys hd hy ht
    have hi : i < xs.length := by omega
    have := ih (i + 1) (ys.set (i : Int).toNat (⟨(rd_T267 xs (i : Int)).f0, (rd_T267 xs (i : Int)).f1⟩ : S143)) (by omega) (by simp [hy]) (by
      rw [Int.toNat_natCast, set_take _ _ _ (by omega), ht, rdE7_eq xs i hi, List.take_succ_eq_append_getElem hi, List.map_append]; rfl)
    rw [← w1 i (by omega)] at this
    exact Ev.step (fun k => q1d.l0.eq_2 ..) (Ev.ip (by omega) (Ev.ip (by omega) (Ev.bind (Ev.val fun _ => rfl) (Ev.ip (by omega) this))))
theorem toEntryS_ev (xs : List S267) (hl : xs.length ≤ 1048576) : Ev (fun k => q1d.f k xs) (xs.map cE) := by
  unfold q1d.f
  exact Ev.ip (by omega) (Ev.ip (by omega) (toEntryS_loop xs hl xs.length 0 _ (by omega) (by simp) (by simp)))
theorem toInode_ev (x : S159) (h : SzI (cI x)) : Ev (fun k => q1f.f k x.f0 x.f1 x.f2 x.f3 x.f4) (x.f0, x.f1, x.f2, x.f3, x.f4.map cE) := by
  unfold q1f.f
  have h4 : x.f4.length ≤ 1048576 := by have := h.2.1; simpa [cI] using this
  exact Ev.bind (toInt64S_ev x.f3 h.1) (Ev.bind (toEntryS_ev x.f4 h4) (Ev.now _))
theorem toInodeS_loop (xs : List S159) (hl : xs.length ≤ 1048576) (hs : ∀ x ∈ xs, SzI (cI x)) : ∀ (d i : Nat) (ys : List S86), xs.length = i + d → ys.length = xs.length → ys.take i = (xs.take i).map cI → Ev (fun k => q1g.l0 k xs ys (i : Int)) (xs.map cI) := by
  intro d
  induction d with
  | zero =>
    intro i ys hd hy ht
    have e : ys = xs.map cI := by rw [List.take_of_length_le (by omega), List.take_of_length_le (by omega)] at ht; exact ht
    subst e
    exact Ev.step (fun k => q1g.l0.eq_2 ..) (Ev.im (by omega) (Ev.now _))
  | succ d ih =>
    intro i ys hd hy ht
    have hi : i < xs.length := by omega
    have hx := rdI9_eq xs i hi
    have hb := toInode_ev (rd_T159 xs (i : Int)) (by rw [hx]; exact hs _ (List.getElem_mem hi))
    have := ih (i + 1) (ys.set (i : Int).toNat (cI (rd_T159 xs (i : Int)))) (by omega) (by simp [hy]) (by
      rw [Int.toNat_natCast, set_take _ _ _ (by omega), ht, hx, List.take_succ_eq_append_getElem hi, List.map_append]; rfl)
    rw [← w1 i (by omega)] at this
    exact Ev.step (fun k => q1g.l0.eq_2 ..) (Ev.ip (by omega) (Ev.ip (by omega) (Ev.bind hb (Ev.ip (by omega) this))))
theorem toInodeS_ev (xs : List S159) (hl : xs.length ≤ 1048576) (hs : ∀ x ∈ xs, SzI (cI x)) : Ev (fun k => q1g.f k xs) (xs.map cI) := by
  unfold q1g.f
  exact Ev.ip (by omega) (Ev.ip (by omega) (toInodeS_loop xs hl hs xs.length 0 _ (by omega) (by simp) (by simp)))
theorem toFs_ev (ins : List S159) (data : List (List Int)) (h : SzF ins data) : Ev (fun k => q1e.f k ins data) (ins.map cI, data) := by
  unfold q1e.f
  exact Ev.bind (toInodeS_ev ins h.il h.io) (Ev.bind (toByteSS_ev data h.dl h.dd) (Ev.now _))
theorem eqInt64S_self (xs : List Int) (hl : xs.length ≤ 1048576) : Ev (fun k => q10.f k xs xs) true := by
  have h : ∀ (d i : Nat), xs.length = i + d → Ev (fun k => q10.l0 k xs xs (i : Int)) true := by
    intro d
    induction d with
    | zero => exact fun i hd => Ev.step (fun k => q10.l0.eq_2 ..) (Ev.im (by omega) (Ev.now _))
    | succ d ih =>
      intro i hd
      have := ih (i + 1) (by omega)
      rw [← w1 i (by omega)] at this
      exact Ev.step (fun k => q10.l0.eq_2 ..) (Ev.ip (by omega) (Ev.ip (by omega) (Ev.ip (by omega) (Ev.ip rfl this))))
  unfold q10.f
  exact Ev.ip rfl (h xs.length 0 (by omega))
theorem eqByteS_self (xs : List Int) (hl : xs.length ≤ 1048576) : Ev (fun k => qt.f k xs xs) true := by
  have h : ∀ (d i : Nat), xs.length = i + d → Ev (fun k => qt.l0 k xs xs (i : Int)) true := by
    intro d
    induction d with
    | zero => exact fun i hd => Ev.step (fun k => qt.l0.eq_2 ..) (Ev.im (by omega) (Ev.now _))
    | succ d ih =>
      intro i hd
      have := ih (i + 1) (by omega)
      rw [← w1 i (by omega)] at this
      exact Ev.step (fun k => qt.l0.eq_2 ..) (Ev.ip (by omega) (Ev.ip (by omega) (Ev.ip (by omega) (Ev.ip rfl this))))
  unfold qt.f
  exact Ev.ip rfl (h xs.length 0 (by omega))
theorem eqByteSS_self (xs : List (List Int)) (hl : xs.length ≤ 1048576) (hs : ∀ x ∈ xs, x.length ≤ 1048576) : Ev (fun k => qu.f k xs xs) true := by
  have h : ∀ (d i : Nat), xs.length = i + d → Ev (fun k => qu.l0 k xs xs (i : Int)) true := by
    intro d
    induction d with
    | zero => exact fun i hd => Ev.step (fun k => qu.l0.eq_2 ..) (Ev.im (by omega) (Ev.now _))
    | succ d ih =>
      intro i hd
      have hi : i < xs.length := by omega
      have := ih (i + 1) (by omega)
      rw [← w1 i (by omega)] at this
      exact Ev.step (fun k => qu.l0.eq_2 ..) (Ev.ip (by omega) (Ev.ip (by omega) (Ev.ip (by omega) (Ev.bind (eqByteS_self _ (by rw [rdL_eq xs i hi]; exact hs _ (List.getElem_mem hi))) (Ev.ip rfl this)))))
  unfold qu.f
  exact Ev.ip rfl (h xs.length 0 (by omega))
theorem eqEntry_self (s : ByteArray) (n : Int) : qv.f s n s n = some true := by unfold qv.f; rw [if_pos rfl, if_pos rfl]
theorem eqEntryS_self (xs : List S143) (hl : xs.length ≤ 1048576) : Ev (fun k => qw.f k xs xs) true := by
  have h : ∀ (d i : Nat), xs.length = i + d → Ev (fun k => qw.l0 k xs xs (i : Int)) true := by
    intro d
    induction d with
    | zero => exact fun i hd => Ev.step (fun k => qw.l0.eq_2 ..) (Ev.im (by omega) (Ev.now _))
    | succ d ih =>
      intro i hd
      have := ih (i + 1) (by omega)
      rw [← w1 i (by omega)] at this
      exact Ev.step (fun k => qw.l0.eq_2 ..) (Ev.ip (by omega) (Ev.ip (by omega) (Ev.ip (by omega) (Ev.bind (Ev.val fun _ => eqEntry_self _ _) (Ev.ip rfl this)))))
  unfold qw.f
  exact Ev.ip rfl (h xs.length 0 (by omega))
theorem eqInode_self (x : S86) (h : SzI x) : Ev (fun k => qy.f k x.f0 x.f1 x.f2 x.f3 x.f4 x.f0 x.f1 x.f2 x.f3 x.f4) true := by
  unfold qy.f
  exact Ev.ip rfl (Ev.ip rfl (Ev.ip rfl (Ev.bind (eqInt64S_self x.f3 h.1) (Ev.ip rfl (Ev.bind (eqEntryS_self x.f4 h.2.1) (Ev.ip rfl (Ev.now _)))))))
theorem eqInodeS_self (xs : List S86) (hl : xs.length ≤ 1048576) (hs : ∀ x ∈ xs, SzI x) : Ev (fun k => qz.f k xs xs) true := by
  have h : ∀ (d i : Nat), xs.length = i + d → Ev (fun k => qz.l0 k xs xs (i : Int)) true := by
    intro d
    induction d with
    | zero => exact fun i hd => Ev.step (fun k => qz.l0.eq_2 ..) (Ev.im (by omega) (Ev.now _))
    | succ d ih =>
      intro i hd
      have hi : i < xs.length := by omega
      have := ih (i + 1) (by omega)
      rw [← w1 i (by omega)] at this
      exact Ev.step (fun k => qz.l0.eq_2 ..) (Ev.ip (by omega) (Ev.ip (by omega) (Ev.ip (by omega) (Ev.bind (eqInode_self _ (by rw [rdT_eq xs i hi]; exact hs _ (List.getElem_mem hi))) (Ev.ip rfl this)))))
  unfold qz.f
  exact Ev.ip rfl (h xs.length 0 (by omega))
theorem eqFs_self (ins : List S86) (data : List (List Int)) (hl : ins.length ≤ 1048576) (hs : ∀ x ∈ ins, SzI x) (dl : data.length ≤ 1048576) (dd : ∀ x ∈ data, x.length ≤ 1048576) : Ev (fun k => qx.f k ins data ins data) true := by
  unfold qx.f
  exact Ev.bind (eqInodeS_self ins hl hs) (Ev.ip rfl (Ev.bind (eqByteSS_self data dl dd) (Ev.ip rfl (Ev.now _))))
theorem eqTextResult_self (r : Int × ByteArray) : q11.f r.1 r.2 r.1 r.2 = some true := by unfold q11.f; rw [if_pos rfl, if_pos rfl]
theorem eqFs_c (ins : List S159) (data : List (List Int)) (h : SzF ins data) : Ev (fun k => qx.f k (ins.map cI) data (ins.map cI) data) true :=
  eqFs_self _ _ (by rw [List.length_map]; exact h.il) (fun x hx => by obtain ⟨y, hy, rfl⟩ := List.mem_map.1 hx; exact h.io y hy) h.dl h.dd
end Go.Proofs.YtafhjhdohclchaaGreatDoor.G
namespace Go.Proofs.YtafhjhdohclchaaGreatDoor.G
open Go.RowKit Go.Proofs.YtafhjhdohclchaaGreatDoorW.PrintWords Go.Proofs.YtafhjhdohclchaaGreatDoorW.PrintLast Go.Proofs.YtafhjhdohclchaaGreatDoorW.PrintMore
attribute [local go_sem] min2_int min_two
inductive Reach (ch : Nat → List Nat) (from_ : Nat) : Nat → Prop
  | base : Reach ch from_ from_
  | step {i c : Nat} : Reach ch from_ i → c ∈ ch i → Reach ch from_ c
/-- What the depth-first loop keeps. -/
structure Dfs (ch : Nat → List Nat) (n a : Nat) (seen : List Bool) (op : List Nat) : Prop where
  len : seen.length = n
  ops : ∀ i ∈ op, i < n ∧ Reach ch a i
  snd : ∀ i, seen[i]? = some true → Reach ch a i
  cl : ∀ i, seen[i]? = some true → ∀ c ∈ ch i, seen[c]? = some true ∨ c ∈ op
  st : seen[a]? = some true ∨ a ∈ op
theorem Dfs.start {ch : Nat → List Nat} {n a : Nat} (h : a < n) : Dfs ch n a (List.replicate n false) [a] where
  len := by simp
  ops := by intro i hi; simp at hi; subst hi; exact ⟨h, .base⟩
  snd := by intro i hi; simp [List.getElem?_replicate] at hi
  cl := by intro i hi; simp [List.getElem?_replicate] at hi
  st := by simp
theorem Dfs.skip {ch : Nat → List Nat} {n a at_ : Nat} {seen : List Bool} {op : List Nat} (h : Dfs ch n a seen (op ++ [at_])) (hs : seen[at_]? = some true) : Dfs ch n a seen op where
  len := h.len
  ops := fun i hi => h.ops i (by simp [hi])
  snd := h.snd
  cl := fun i hi c hc => by
    rcases h.cl i hi c hc with h1 | h1
    · exact .inl h1
    · rcases List.mem_append.1 h1 with h2 | h2
      · exact .inr h2
      · simp at h2; subst h2; exact .inl hs
  st := by
    rcases h.st with h1 | h1
    · exact .inl h1
    · rcases List.mem_append.1 h1 with h2 | h2
      · exact .inr h2
      · simp at h2; subst h2; exact .inl hs
theorem Dfs.take {ch : Nat → List Nat} {n a at_ : Nat} {seen : List Bool} {op : List Nat} (hr : ∀ i, i < n → ∀ c ∈ ch i, c < n) (h : Dfs ch n a seen (op ++ [at_])) : Dfs ch n a (seen.set at_ true) (op ++ ch at_) := by
  have ha := h.ops at_ (by simp)
  have hl := h.len
  have hat : (seen.set at_ true)[at_]? = some true := by simp [hl, ha.1]
  have up : ∀ i : Nat, seen[i]? = some true → (seen.set at_ true)[i]? = some true := by
    intro i hi
    by_cases e : at_ = i
    · subst e; exact hat
    · rw [List.getElem?_set_ne e]; exact hi
  refine ⟨by simp [hl], ?_, ?_, ?_, ?_⟩
  · intro i hi
    rcases List.mem_append.1 hi with h1 | h1
    · exact h.ops i (by simp [h1])
    · exact ⟨hr at_ ha.1 i h1, .step ha.2 h1⟩
  · intro i hi
    by_cases e : at_ = i
    · subst e; exact ha.2
    · rw [List.getElem?_set_ne e] at hi; exact h.snd i hi
  · intro i hi c hc
    by_cases e : at_ = i
    · subst e; exact .inr (by simp [hc])
    · rw [List.getElem?_set_ne e] at hi
      rcases h.cl i hi c hc with h1 | h1
      · exact .inl (up c h1)
      · rcases List.mem_append.1 h1 with h2 | h2
        · exact .inr (by simp [h2])
        · simp at h2; subst h2; exact .inl hat
  · rcases h.st with h1 | h1
    · exact .inl (up a h1)
    · rcases List.mem_append.1 h1 with h2 | h2
      · exact .inr (by simp [h2])
      · simp at h2; subst h2; exact .inl hat
theorem closed_reach {ch : Nat → List Nat} {a : Nat} {seen : List Bool} (hs : ∀ i, seen[i]? = some true → Reach ch a i) (hc : ∀ i, seen[i]? = some true → ∀ c ∈ ch i, seen[c]? = some true) (ha : seen[a]? = some true) (i : Nat) : seen[i]? = some true ↔ Reach ch a i := by
  constructor
  · exact hs i
  · intro h
    induction h with
    | base => exact ha
    | step _ hc' ih => exact hc _ ih _ hc'
theorem Dfs.done {ch : Nat → List Nat} {n a : Nat} {seen : List Bool} (h : Dfs ch n a seen []) (i : Nat) : seen[i]? = some true ↔ Reach ch a i :=
  closed_reach h.snd (fun i hi c hc => by simpa using h.cl i hi c hc) (by simpa using h.st) i
/-- two lists of bools that hold true at the same places -/
theorem bools_ext {a b : List Bool} (hl : a.length = b.length) (h : ∀ i : Nat, a[i]? = some true ↔ b[i]? = some true) : a = b := by
  apply List.ext_getElem hl
  intro i h1 h2
  have := h i
  rw [List.getElem?_eq_getElem h1, List.getElem?_eq_getElem h2] at this
  simp at this
  cases ha : a[i] <;> cases hb : b[i] <;> simp_all
/-- counting: how many are true -/
def cnt (s : List Bool) : Nat := s.count true
theorem cnt_set (s : List Bool) (i : Nat) (h : s[i]? = some false) : cnt (s.set i true) = cnt s + 1 := by
  unfold cnt
  obtain ⟨hi, he⟩ := List.getElem?_eq_some_iff.1 h
  rw [List.count_set hi]
  simp [he]
/-- One list of bools says at least what another says. -/
def Sub (s t : List Bool) : Prop := s.length = t.length ∧ ∀ i : Nat, s[i]? = some true → t[i]? = some true
theorem Sub.refl (s : List Bool) : Sub s s := ⟨rfl, fun _ h => h⟩
theorem Sub.trans {s t u : List Bool} (h : Sub s t) (h2 : Sub t u) : Sub s u := ⟨h.1.trans h2.1, fun i hi => h2.2 i (h.2 i hi)⟩
theorem Sub.set (s : List Bool) (i : Nat) : Sub s (s.set i true) := by
  refine ⟨by simp, fun j hj => ?_⟩
  by_cases e : i = j
  · subst e
    have := (List.getElem?_eq_some_iff.1 hj).1
    simp [this]
  · rw [List.getElem?_set_ne e]; exact hj
theorem cnt_le : ∀ {s t : List Bool}, Sub s t → cnt s ≤ cnt t ∧ (cnt s = cnt t → s = t)
  | [], t, h => by
    have : t = [] := List.eq_nil_of_length_eq_zero h.1.symm
    subst this; exact ⟨Nat.le_refl _, fun _ => rfl⟩
  | x :: s, [], h => by simp [Sub] at h
  | x :: s, y :: t, h => by
    have h' : Sub s t := ⟨by simpa using h.1, fun i hi => by simpa using h.2 (i + 1) (by simpa using hi)⟩
    obtain ⟨ih1, ih2⟩ := cnt_le h'
    have h0 := h.2 0
    unfold cnt at *
    cases x <;> cases y <;> simp_all
    · omega
theorem cnt_le_len (s : List Bool) : cnt s ≤ s.length := List.count_le_length
def setAll (s : List Bool) : List Nat → List Bool
  | [] => s
  | c :: r => setAll (s.set c true) r
theorem setAll_sub : ∀ (l : List Nat) (s : List Bool), Sub s (setAll s l)
  | [], s => .refl s
  | c :: r, s => (Sub.set s c).trans (setAll_sub r _)
theorem setAll_mem : ∀ (l : List Nat) (s : List Bool) (c : Nat), c ∈ l → c < s.length → (setAll s l)[c]? = some true
  | [], s, c, h, _ => by cases h
  | d :: r, s, c, h, hl => by
    rcases List.mem_cons.1 h with h1 | h1
    · subst h1
      exact (setAll_sub r _).2 c (by simp [hl])
    · exact setAll_mem r _ c h1 (by simpa using hl)
theorem setAll_snd (P : Nat → Prop) : ∀ (l : List Nat) (s : List Bool), (∀ i : Nat, s[i]? = some true → P i) → (∀ c ∈ l, P c) → ∀ i : Nat, (setAll s l)[i]? = some true → P i
  | [], s, h, _ => h
  | d :: r, s, h, hl => setAll_snd P r _ (fun i hi => by
      by_cases e : d = i
      · subst e; exact hl d (by simp)
      · rw [List.getElem?_set_ne e] at hi; exact h i hi) (fun c hc => hl c (by simp [hc]))
/-- One round from place i on. -/
def rnd (ch : Nat → List Nat) : Nat → Nat → List Bool → List Bool
  | 0, _, s => s
  | d + 1, i, s => rnd ch d (i + 1) (if s[i]? = some true then setAll s (ch i) else s)
theorem rnd_sub (ch : Nat → List Nat) : ∀ d i s, Sub s (rnd ch d i s)
  | 0, _, s => .refl s
  | d + 1, i, s => by
    unfold rnd
    split
    · exact (setAll_sub _ s).trans (rnd_sub ch d _ _)
    · exact rnd_sub ch d _ _
theorem rnd_mem (ch : Nat → List Nat) : ∀ d i s j, i ≤ j → j < i + d → s[j]? = some true → (∀ c ∈ ch j, c < s.length) → ∀ c ∈ ch j, (rnd ch d i s)[c]? = some true
  | 0, i, s, j, h1, h2, _, _ => by omega
  | d + 1, i, s, j, h1, h2, hj, hb => by
    intro c hc
    unfold rnd
    by_cases e : i = j
    · subst e
      rw [if_pos hj]
      exact (rnd_sub ch d _ _).2 c (setAll_mem _ _ _ hc (hb c hc))
    · refine rnd_mem ch d (i + 1) _ j (by omega) (by omega) ?_ ?_ c hc
      · split
        · exact (setAll_sub _ _).2 j hj
        · exact hj
      · split
        · rw [← (setAll_sub _ _).1]; exact hb
        · exact hb
theorem rnd_snd (ch : Nat → List Nat) (a : Nat) : ∀ d i s, (∀ j : Nat, s[j]? = some true → Reach ch a j) → ∀ j : Nat, (rnd ch d i s)[j]? = some true → Reach ch a j
  | 0, _, _, h => h
  | d + 1, i, s, h => by
    unfold rnd
    refine rnd_snd ch a d _ _ ?_
    split
    · rename_i hi
      exact setAll_snd _ _ _ h (fun c hc => .step (h i hi) hc)
    · exact h
def rnds (ch : Nat → List Nat) (n : Nat) : Nat → List Bool → List Bool
  | 0, s => s
  | m + 1, s => rnds ch n m (rnd ch n 0 s)
theorem rnds_sub (ch : Nat → List Nat) (n : Nat) : ∀ m s, Sub s (rnds ch n m s)
  | 0, s => .refl s
  | m + 1, s => (rnd_sub ch n 0 s).trans (rnds_sub ch n m _)
theorem rnds_fix (ch : Nat → List Nat) (n : Nat) : ∀ m s, rnd ch n 0 s = s → rnds ch n m s = s
  | 0, s, _ => rfl
  | m + 1, s, h => by rw [rnds, h]; exact rnds_fix ch n m s h
theorem rnds_closed (ch : Nat → List Nat) (n : Nat) : ∀ m s, n ≤ cnt s + m → s.length = n → rnd ch n 0 (rnds ch n m s) = rnds ch n m s
  | 0, s, h, hl => by
    have h1 := cnt_le (rnd_sub ch n 0 s)
    have h2 := cnt_le_len (rnd ch n 0 s)
    have h3 := (rnd_sub ch n 0 s).1
    exact (h1.2 (by have := h1.1; omega)).symm
  | m + 1, s, h, hl => by
    by_cases e : rnd ch n 0 s = s
    · rw [rnds_fix ch n _ s e]; exact e
    · rw [rnds]
      have h1 := cnt_le (rnd_sub ch n 0 s)
      refine rnds_closed ch n m _ ?_ ((rnd_sub ch n 0 s).1.symm.trans hl)
      have : cnt s ≠ cnt (rnd ch n 0 s) := fun e2 => e (h1.2 e2).symm
      omega
theorem rnds_snd (ch : Nat → List Nat) (a n : Nat) : ∀ m s, (∀ j : Nat, s[j]? = some true → Reach ch a j) → ∀ j : Nat, (rnds ch n m s)[j]? = some true → Reach ch a j
  | 0, _, h => h
  | m + 1, s, h => rnds_snd ch a n m _ (rnd_snd ch a n 0 s h)
theorem rnds_done {ch : Nat → List Nat} {n a : Nat} (ha : a < n) (hr : ∀ i, i < n → ∀ c ∈ ch i, c < n) (i : Nat) : (rnds ch n n ((List.replicate n false).set a true))[i]? = some true ↔ Reach ch a i := by
  have hl : (rnds ch n n ((List.replicate n false).set a true)).length = n := by rw [← (rnds_sub ch n n _).1]; simp
  refine closed_reach ?_ ?_ ?_ i
  · refine rnds_snd ch a n n _ ?_
    intro j hj
    by_cases e : a = j
    · subst e; exact .base
    · rw [List.getElem?_set_ne e, List.getElem?_replicate] at hj; simp at hj
  · intro j hj c hc
    have hjn : j < n := by have := (List.getElem?_eq_some_iff.1 hj).1; omega
    rw [← rnds_closed ch n n _ (by omega) (by simp)]
    exact rnd_mem ch n 0 _ j (by omega) (by omega) hj (by rw [hl]; exact hr j hjn) c hc
  · exact (rnds_sub ch n n _).2 a (by simp [ha])
end Go.Proofs.YtafhjhdohclchaaGreatDoor.G
namespace Go.Proofs.YtafhjhdohclchaaGreatDoor.G
open Go.RowKit Go.Proofs.YtafhjhdohclchaaGreatDoorW.PrintWords Go.Proofs.YtafhjhdohclchaaGreatDoorW.PrintLast Go.Proofs.YtafhjhdohclchaaGreatDoorW.PrintMore
attribute [local go_sem] min2_int min_two
theorem rdB_eq (xs : List Bool) (i : Nat) (h : i < xs.length) : rdOf false xs (i : Int) = xs[i] := by simp [rdOf, List.getD_eq_getElem?_getD, List.getElem?_eq_getElem h]
theorem rdB_iff (xs : List Bool) (i : Nat) (h : i < xs.length) : rdOf false xs (i : Int) = true ↔ xs[i]? = some true := by rw [rdB_eq xs i h, List.getElem?_eq_getElem h, Option.some.injEq]
/-- where an inode's entries lead -/
def chL (ins : List S86) (i : Nat) : List Nat := (rd_T86 ins (i : Int)).f4.map fun e => e.f1.toNat
def outF (s : List Bool) (d i : Nat) : List Int := ((List.range' i d).filter fun j => s[j]? == some true).map fun n : Nat => (n : Int)
theorem outF_succ (s : List Bool) (d i : Nat) : outF s (d + 1) i = (if s[i]? = some true then [(i : Int)] else []) ++ outF s d (i + 1) := by
  unfold outF
  rw [List.range'_succ, List.filter_cons]
  by_cases h : s[i]? = some true <;> simp [h]
theorem out_impl (s : List Bool) (hs : s.length ≤ 100) : ∀ (d i : Nat) (acc : List Int), s.length = i + d → acc.length ≤ i → Ev (fun k => qj.l2 k acc s (s.length : Int) (i : Int)) (acc ++ outF s d i) := by
  intro d
  induction d with
  | zero =>
    intro i acc he ha
    simp only [outF, List.range'_zero, List.filter_nil, List.map_nil, List.append_nil]
    exact Ev.step (fun k => qj.l2.eq_2 ..) (Ev.im (by omega) (Ev.now _))
  | succ d ih =>
    intro i acc he ha
    have hi : i < s.length := by omega
    rw [outF_succ]
    by_cases h : s[i]? = some true
    · have := ih (i + 1) (acc ++ [(i : Int)]) (by omega) (by simp; omega)
      rw [← w1 i (by omega)] at this
      rw [if_pos h, ← List.append_assoc]
      exact Ev.step (fun k => qj.l2.eq_2 ..) (Ev.ip (by omega) (Ev.ip (by omega) (Ev.ip (by omega) (Ev.ip ((rdB_iff s i hi).2 h) (Ev.ip (by omega) this)))))
    · have := ih (i + 1) acc (by omega) (by omega)
      rw [← w1 i (by omega)] at this
      rw [if_neg h, List.nil_append]
      exact Ev.step (fun k => qj.l2.eq_2 ..) (Ev.ip (by omega) (Ev.ip (by omega) (Ev.ip (by omega) (Ev.im (fun e => h ((rdB_iff s i hi).1 e)) this))))
theorem out_spec (s : List Bool) (hs : s.length ≤ 100) : ∀ (d i : Nat) (acc : List Int), s.length = i + d → acc.length ≤ i → Ev (fun k => q28.l3 k s acc (i : Int)) (acc ++ outF s d i) := by
  intro d
  induction d with
  | zero =>
    intro i acc he ha
    simp only [outF, List.range'_zero, List.filter_nil, List.map_nil, List.append_nil]
    exact Ev.step (fun k => q28.l3.eq_2 ..) (Ev.im (by omega) (Ev.now _))
  | succ d ih =>
    intro i acc he ha
    have hi : i < s.length := by omega
    rw [outF_succ]
    by_cases h : s[i]? = some true
    · have := ih (i + 1) (acc ++ [(i : Int)]) (by omega) (by simp; omega)
      rw [← w1 i (by omega)] at this
      rw [if_pos h, ← List.append_assoc]
      exact Ev.step (fun k => q28.l3.eq_2 ..) (Ev.ip (by omega) (Ev.ip (by omega) (Ev.ip ((rdB_iff s i hi).2 h) (Ev.ip (by omega) this))))
    · have := ih (i + 1) acc (by omega) (by omega)
      rw [← w1 i (by omega)] at this
      rw [if_neg h, List.nil_append]
      exact Ev.step (fun k => q28.l3.eq_2 ..) (Ev.ip (by omega) (Ev.ip (by omega) (Ev.im (fun e => h ((rdB_iff s i hi).1 e)) this)))
section
variable {ins : List S86} {data : List (List Int)}
/-- all entries lead somewhere; their places are whole numbers from 0 on -/
theorem ch_lt (h : ∀ x ∈ ins, ∀ e ∈ x.f4, EntOK ins e) : ∀ i, i < ins.length → ∀ c ∈ chL ins i, c < ins.length := by
  intro i hi c hc
  obtain ⟨e, he, rfl⟩ := List.mem_map.1 hc
  rw [rdT_eq ins i hi] at he
  have := h _ (List.getElem_mem hi) e he
  have := this.1; have := (h _ (List.getElem_mem hi) e he).2.1
  omega
theorem dfs_inner (h10 : ins.length ≤ 10) (hok : ∀ x ∈ ins, InodeOK x) (s : List Bool) (i : Nat) (hi : i < ins.length) {R : List Int} : ∀ (d j : Nat) (op : List Int), ins[i].f4.length = j + d → op.length ≤ 100 + j →
    Ev (fun k => qj.l0 k ins s (op ++ (ins[i].f4.drop j).map (·.f1))) R → Ev (fun k => qj.l1 k ins s op (rd_T86 ins (i : Int)).f4 ((rd_T86 ins (i : Int)).f4.length : Int) (j : Int)) R := by
  have hx := rdT_eq ins i hi
  have h6 := (hok _ (List.getElem_mem hi)).es.1
  intro d
  induction d with
  | zero =>
    intro j op he ho hR
    rw [List.drop_of_length_le (by omega)] at hR
    simp only [List.map_nil, List.append_nil] at hR
    exact Ev.step (fun k => qj.l1.eq_2 ..) (Ev.im (by rw [hx]; omega) hR)
  | succ d ih =>
    intro j op he ho hR
    have hj : j < ins[i].f4.length := by omega
    have hy : rd_T143 (rd_T86 ins (i : Int)).f4 (j : Int) = ins[i].f4[j] := by rw [hx, rdE_eq _ j hj]
    have := ih (j + 1) (op ++ [(rd_T143 (rd_T86 ins (i : Int)).f4 (j : Int)).f1]) (by omega) (by simp; omega) (by
      rw [List.drop_eq_getElem_cons hj] at hR
      rw [hy, List.append_assoc]
      exact hR)
    rw [← w1 j (by omega)] at this
    exact Ev.step (fun k => qj.l1.eq_2 ..) (Ev.ip (by rw [hx]; omega) (Ev.ip (by omega) (Ev.ip (by rw [hx]; omega) (Ev.ip (by omega) this))))
theorem dfs_loop (h10 : ins.length ≤ 10) (hok : ∀ x ∈ ins, InodeOK x) (he : ∀ x ∈ ins, ∀ e ∈ x.f4, EntOK ins e) (a : Nat) : ∀ (m : Nat), m ≤ 80 → ∀ (s : List Bool) (op : List Nat), Dfs (chL ins) ins.length a s op → (ins.length - cnt s) * 7 + op.length ≤ m →
    ∃ s' : List Bool, s'.length = ins.length ∧ (∀ i : Nat, s'[i]? = some true ↔ Reach (chL ins) a i) ∧ ∀ R, Ev (fun k => qj.l2 k [] s' (s'.length : Int) 0) R → Ev (fun k => qj.l0 k ins s (op.map fun n : Nat => (n : Int))) R := by
  intro m
  induction m with
  | zero =>
    intro _ s op hd hm
    have : op = [] := List.eq_nil_of_length_eq_zero (by omega)
    subst this
    exact ⟨s, hd.len, hd.done, fun R hR => Ev.step (fun k => qj.l0.eq_2 ..) (Ev.im (by simp) hR)⟩
  | succ m ih =>
    intro hm80 s op hd hm
    rcases List.eq_nil_or_concat op with rfl | ⟨op', t, rfl⟩
    · exact ⟨s, hd.len, hd.done, fun R hR => Ev.step (fun k => qj.l0.eq_2 ..) (Ev.im (by simp) hR)⟩
    · rw [List.concat_eq_append] at hd hm ⊢
      have ht := hd.ops t (by simp)
      have hl := hd.len
      rw [List.length_append, List.length_singleton] at hm
      have hlen : (((op' ++ [t]).map fun n : Nat => (n : Int)).length : Int) = (op'.length : Int) + 1 := by simp
      have hw : wrap64 ((((op' ++ [t]).map fun n : Nat => (n : Int)).length : Int) - 1) = (op'.length : Int) := by rw [hlen, w64_id _ (by omega) (by omega)]; omega
      have hrd : rd ((op' ++ [t]).map fun n : Nat => (n : Int)) (wrap64 ((((op' ++ [t]).map fun n : Nat => (n : Int)).length : Int) - 1)) = (t : Int) := by
        rw [hw, rd_eq _ op'.length (by simp)]
        simp
      have htk : ((op' ++ [t]).map fun n : Nat => (n : Int)).take (wrap64 ((((op' ++ [t]).map fun n : Nat => (n : Int)).length : Int) - 1)).toNat = op'.map fun n : Nat => (n : Int) := by
        rw [hw, Int.toNat_natCast, List.map_append]
        rw [List.take_left' (by simp)]
      have hts : t < s.length := by omega
      by_cases hst : s[t]? = some true
      · obtain ⟨s', h1, h2, h3⟩ := ih (by omega) s op' (hd.skip hst) (by omega)
        refine ⟨s', h1, h2, fun R hR => ?_⟩
        refine Ev.step (fun k => qj.l0.eq_2 ..) (Ev.ip (by omega) (Ev.ip (by omega) (Ev.ip (by omega) (Ev.ip (by omega) (Ev.bind (Ev.val fun _ => rfl) ?_)))))
        simp only [hrd, htk]
        exact Ev.ip (by omega) (Ev.ip (by omega) (Ev.ip ((rdB_iff s t hts).2 hst) (h3 R hR)))
      · have hsf : s[t]? = some false := by
          rw [List.getElem?_eq_getElem hts] at hst ⊢
          cases hb : s[t] <;> simp_all
        have hc := cnt_set s t hsf
        have hcl := cnt_le_len (s.set t true)
        rw [List.length_set] at hcl
        have h6 := (hok _ (List.getElem_mem ht.1)).es.1
        have hchl : (chL ins t).length = ins[t].f4.length := by simp [chL, rdT_eq ins t ht.1]
        obtain ⟨s', h1, h2, h3⟩ := ih (by omega) (s.set t true) (op' ++ chL ins t) (hd.take (ch_lt he)) (by rw [hc, List.length_append, hchl]; omega)
        refine ⟨s', h1, h2, fun R hR => ?_⟩
        refine Ev.step (fun k => qj.l0.eq_2 ..) (Ev.ip (by omega) (Ev.ip (by omega) (Ev.ip (by omega) (Ev.ip (by omega) (Ev.bind (Ev.val fun _ => rfl) ?_)))))
        simp only [hrd, htk]
        refine Ev.ip (by omega) (Ev.ip (by omega) (Ev.im (fun e => hst ((rdB_iff s t hts).1 e)) (Ev.ip (by omega) ?_)))
        refine dfs_inner h10 hok (s.set (t : Int).toNat true) t ht.1 ins[t].f4.length 0 _ (by omega) (by simp; omega) ?_
        have e2 : (op' ++ chL ins t).map (fun n : Nat => (n : Int)) = op'.map (fun n : Nat => (n : Int)) ++ (ins[t].f4.drop 0).map (·.f1) := by
          rw [List.map_append, List.drop_zero, chL, rdT_eq ins t ht.1, List.map_map]
          congr 1
          apply List.map_congr_left
          intro e hem
          have := (he _ (List.getElem_mem ht.1) e hem).1
          simp only [Function.comp_apply]
          omega
        rw [← e2]
        exact h3 R hR
theorem reach_impl (h10 : ins.length ≤ 10) (hok : ∀ x ∈ ins, InodeOK x) (he : ∀ x ∈ ins, ∀ e ∈ x.f4, EntOK ins e) (a : Nat) (ha : a < ins.length) :
    ∃ s' : List Bool, s'.length = ins.length ∧ (∀ i : Nat, s'[i]? = some true ↔ Reach (chL ins) a i) ∧ Ev (fun k => qj.f k ins (a : Int)) (outF s' s'.length 0) := by
  have hd := Dfs.start (ch := chL ins) ha
  obtain ⟨s', h1, h2, h3⟩ := dfs_loop h10 hok he a 71 (by omega) _ _ hd (by simp; omega)
  refine ⟨s', h1, h2, ?_⟩
  have := h3 _ (by simpa using out_impl s' (by omega) s'.length 0 [] (by omega) (by simp))
  unfold qj.f
  refine Ev.ip (by omega) (Ev.ip (by omega) ?_)
  simpa using this
/-- one round of the reference -/
theorem rnd_inner (h10 : ins.length ≤ 10) (hok : ∀ x ∈ ins, InodeOK x) (he : ∀ x ∈ ins, ∀ e ∈ x.f4, EntOK ins e) (q i : Nat) (hi : i < ins.length) {R : List Int} : ∀ (d j : Nat) (s : List Bool), ins[i].f4.length = j + d → s.length = ins.length → s[i]? = some true →
    Ev (fun k => q28.l1 k (setAll s ((chL ins i).drop j)) (q : Int) ((i + 1 : Nat) : Int) ins data) R → Ev (fun k => q28.l2 k s (q : Int) (i : Int) (j : Int) ins data) R := by
  have hx := rdT_eq ins i hi
  have h6 := (hok _ (List.getElem_mem hi)).es.1
  have hchl : (chL ins i).length = ins[i].f4.length := by simp [chL, hx]
  intro d
  induction d with
  | zero =>
    intro j s hd hs hsi hR
    rw [List.drop_of_length_le (by omega), setAll, ← w1 i (by omega)] at hR
    exact Ev.step (fun k => q28.l2.eq_2 ..) (Ev.ip (by omega) (Ev.ip (by omega) (Ev.ip ((rdB_iff s i (by omega)).2 hsi) (Ev.ip (by omega) (Ev.im (by rw [hx]; omega) hR)))))
  | succ d ih =>
    intro j s hd hs hsi hR
    have hj : j < ins[i].f4.length := by omega
    have hy : rd_T143 (rd_T86 ins (i : Int)).f4 (j : Int) = ins[i].f4[j] := by rw [hx, rdE_eq _ j hj]
    have hent := he _ (List.getElem_mem hi) _ (List.getElem_mem hj)
    rw [← hy] at hent
    have hdr : (chL ins i).drop j = (rd_T143 (rd_T86 ins (i : Int)).f4 (j : Int)).f1.toNat :: (chL ins i).drop (j + 1) := by
      rw [List.drop_eq_getElem_cons (by omega)]
      congr 1
      simp [chL, hx, rdE_eq _ j hj]
    rw [hdr, setAll] at hR
    have := ih (j + 1) (s.set (rd_T143 (rd_T86 ins (i : Int)).f4 (j : Int)).f1.toNat true) (by omega) (by simp [hs]) ((Sub.set s _).2 i hsi) hR
    rw [← w1 j (by omega)] at this
    exact Ev.step (fun k => q28.l2.eq_2 ..) (Ev.ip (by omega) (Ev.ip (by omega) (Ev.ip ((rdB_iff s i (by omega)).2 hsi) (Ev.ip (by omega) (Ev.ip (by rw [hx]; omega) (Ev.ip (by omega) (Ev.ip hent.1 (Ev.ip (by have := hent.2.1; omega) this))))))))
theorem rnd_loop (h10 : ins.length ≤ 10) (hok : ∀ x ∈ ins, InodeOK x) (he : ∀ x ∈ ins, ∀ e ∈ x.f4, EntOK ins e) (q : Nat) (hq : q ≤ 10) {R : List Int} : ∀ (d i : Nat) (s : List Bool), ins.length = i + d → s.length = ins.length →
    Ev (fun k => q28.l0 k (rnd (chL ins) d i s) ((q + 1 : Nat) : Int) ins data) R → Ev (fun k => q28.l1 k s (q : Int) (i : Int) ins data) R := by
  intro d
  induction d with
  | zero =>
    intro i s hd hs hR
    rw [rnd, ← w1 q (by omega)] at hR
    exact Ev.step (fun k => q28.l1.eq_2 ..) (Ev.im (by omega) hR)
  | succ d ih =>
    intro i s hd hs hR
    have hi : i < ins.length := by omega
    rw [rnd] at hR
    by_cases hsi : s[i]? = some true
    · rw [if_pos hsi] at hR
      have := ih (i + 1) (setAll s (chL ins i)) (by omega) ((setAll_sub _ s).1.symm.trans hs) hR
      exact Ev.step (fun k => q28.l1.eq_2 ..) (Ev.ip (by omega) (rnd_inner h10 hok he q i hi ins[i].f4.length 0 s (by omega) hs hsi (by simpa using this)))
    · rw [if_neg hsi] at hR
      have := ih (i + 1) s (by omega) hs hR
      rw [← w1 i (by omega)] at this
      exact Ev.step (fun k => q28.l1.eq_2 ..) (Ev.ip (by omega) (Ev.step (fun k => q28.l2.eq_2 ..) (Ev.ip (by omega) (Ev.ip (by omega) (Ev.im (fun e => hsi ((rdB_iff s i (by omega)).1 e)) this)))))
theorem rnds_loop (h10 : ins.length ≤ 10) (hok : ∀ x ∈ ins, InodeOK x) (he : ∀ x ∈ ins, ∀ e ∈ x.f4, EntOK ins e) {R : List Int} : ∀ (d q : Nat) (s : List Bool), ins.length = q + d → s.length = ins.length →
    Ev (fun k => q28.l3 k (rnds (chL ins) ins.length d s) [] 0) R → Ev (fun k => q28.l0 k s (q : Int) ins data) R := by
  intro d
  induction d with
  | zero =>
    intro q s hd hs hR
    exact Ev.step (fun k => q28.l0.eq_2 ..) (Ev.im (by omega) hR)
  | succ d ih =>
    intro q s hd hs hR
    rw [rnds] at hR
    exact Ev.step (fun k => q28.l0.eq_2 ..) (Ev.ip (by omega) (rnd_loop h10 hok he q (by omega) ins.length 0 s (by omega) hs (ih (q + 1) _ (by omega) ((rnd_sub _ _ _ s).1.symm.trans hs) hR)))
theorem reach_both (h10 : ins.length ≤ 10) (hpos : 0 < ins.length) (hok : ∀ x ∈ ins, InodeOK x) (he : ∀ x ∈ ins, ∀ e ∈ x.f4, EntOK ins e) :
    ∃ L, L.length ≤ 10 ∧ Ev (fun k => qj.f k ins 0) L ∧ Ev (fun k => q28.f k ins data) L ∧ ∀ v : Int, v ∈ L ↔ ∃ i : Nat, v = i ∧ Reach (chL ins) 0 i := by
  obtain ⟨s', h1, h2, h3⟩ := reach_impl h10 hok he 0 hpos
  have hrl : (rnds (chL ins) ins.length ins.length ((List.replicate ins.length false).set 0 true)).length = ins.length := by rw [← (rnds_sub _ _ _ _).1]; simp
  have hs : rnds (chL ins) ins.length ins.length ((List.replicate ins.length false).set 0 true) = s' :=
    bools_ext (hrl.trans h1.symm) (fun i => (rnds_done hpos (ch_lt he) i).trans (h2 i).symm)
  have hmem : ∀ v : Int, v ∈ outF s' s'.length 0 ↔ ∃ i : Nat, v = i ∧ Reach (chL ins) 0 i := by
    intro v
    simp only [outF, List.mem_map, List.mem_filter, List.mem_range'_1, beq_iff_eq]
    constructor
    · rintro ⟨i, ⟨_, hi⟩, rfl⟩
      exact ⟨i, rfl, (h2 i).1 hi⟩
    · rintro ⟨i, rfl, hi⟩
      have := (h2 i).2 hi
      have hl := (List.getElem?_eq_some_iff.1 this).1
      exact ⟨i, ⟨⟨by omega, by omega⟩, this⟩, rfl⟩
  refine ⟨_, ?_, h3, ?_, hmem⟩
  · have : (outF s' s'.length 0).length ≤ s'.length := by
      unfold outF
      rw [List.length_map]
      exact Nat.le_trans (List.length_filter_le _ _) (by simp)
    omega
  · unfold q28.f
    refine Ev.ip (by omega) (Ev.ip (by omega) (Ev.bind (Ev.val fun _ => rfl) (Ev.ip (by simp; omega) ?_)))
    refine rnds_loop h10 hok he ins.length 0 _ (by omega) (by simp) ?_
    have := out_spec s' (by omega) s'.length 0 [] (by omega) (by simp)
    simpa [hs] using this
end
end Go.Proofs.YtafhjhdohclchaaGreatDoor.G
namespace Go.Proofs.YtafhjhdohclchaaGreatDoor.G
open Go.RowKit Go.Proofs.YtafhjhdohclchaaGreatDoorW.PrintWords Go.Proofs.YtafhjhdohclchaaGreatDoorW.PrintLast Go.Proofs.YtafhjhdohclchaaGreatDoorW.PrintMore
attribute [local go_sem] min2_int min_two
/-- where all entries lead -/
def leadsL (ins : List S86) : List Int := ins.flatMap fun x => x.f4.map (·.f1)
section
variable (ins : List S86) (data : List (List Int))
theorem links_impl_l1 (a : Int) (i : Nat) (hi : i < ins.length) (h6 : ins[i].f4.length ≤ 6) (h10 : ins.length ≤ 10) {R : Int} : ∀ (d j : Nat) (n : Int), ins[i].f4.length = j + d → 0 ≤ n → n + d ≤ 1000 →
    Ev (fun k => qg.l0 k a (n + (((ins[i].f4.drop j).map (·.f1)).count a : Int)) ins (ins.length : Int) ((i + 1 : Nat) : Int)) R → Ev (fun k => qg.l1 k a n ins (ins.length : Int) (i : Int) (rd_T86 ins (i : Int)).f4 ((rd_T86 ins (i : Int)).f4.length : Int) (j : Int)) R := by
  have hx := rdT_eq ins i hi
  intro d
  induction d with
  | zero =>
    intro j n he h0 h1 hR
    rw [List.drop_of_length_le (by omega), ← w1 i (by omega)] at hR
    simp only [List.map_nil, List.count_nil, Int.natCast_zero, Int.add_zero] at hR
    exact Ev.step (fun k => qg.l1.eq_2 ..) (Ev.im (by rw [hx]; omega) hR)
  | succ d ih =>
    intro j n he h0 h1 hR
    have hj : j < ins[i].f4.length := by omega
    have hy : rd_T143 (rd_T86 ins (i : Int)).f4 (j : Int) = ins[i].f4[j] := by rw [hx, rdE_eq _ j hj]
    rw [List.drop_eq_getElem_cons hj, List.map_cons, List.count_cons, ← hy] at hR
    by_cases e : (rd_T143 (rd_T86 ins (i : Int)).f4 (j : Int)).f1 = a
    · rw [if_pos (by simpa using e)] at hR
      have h := ih (j + 1) (n + 1) (by omega) (by omega) (by omega) (by
        rw [show n + 1 + (((ins[i].f4.drop (j + 1)).map (·.f1)).count a : Int) = n + ((((ins[i].f4.drop (j + 1)).map (·.f1)).count a + 1 : Nat) : Int) by omega]; exact hR)
      rw [← w1 j (by omega), ← w64_id (n + 1) (by omega) (by omega)] at h
      exact Ev.step (fun k => qg.l1.eq_2 ..) (Ev.ip (by rw [hx]; omega) (Ev.ip (by omega) (Ev.ip (by rw [hx]; omega) (Ev.ip e h))))
    · rw [if_neg (by simpa using e)] at hR
      have h := ih (j + 1) n (by omega) h0 (by omega) (by simpa using hR)
      rw [← w1 j (by omega)] at h
      exact Ev.step (fun k => qg.l1.eq_2 ..) (Ev.ip (by rw [hx]; omega) (Ev.ip (by omega) (Ev.ip (by rw [hx]; omega) (Ev.im e h))))
theorem links_impl (a : Int) (h10 : ins.length ≤ 10) (hok : ∀ x ∈ ins, x.f4.length ≤ 6) : ∀ (d i : Nat) (n : Int), ins.length = i + d → 0 ≤ n → n ≤ 6 * i → Ev (fun k => qg.l0 k a n ins (ins.length : Int) (i : Int)) (n + ((leadsL (ins.drop i)).count a : Int)) := by
  intro d
  induction d with
  | zero =>
    intro i n hl h0 h1
    rw [List.drop_of_length_le (by omega)]
    simp only [leadsL, List.flatMap_nil, List.count_nil, Int.natCast_zero, Int.add_zero]
    exact Ev.step (fun k => qg.l0.eq_2 ..) (Ev.im (by omega) (Ev.now _))
  | succ d ih =>
    intro i n hl h0 h1
    have hi : i < ins.length := by omega
    have h6 := hok _ (List.getElem_mem hi)
    have hc : (ins[i].f4.map (·.f1)).count a ≤ (ins[i].f4.map (·.f1)).length := List.count_le_length
    rw [List.length_map] at hc
    have h := ih (i + 1) (n + ((ins[i].f4.map (·.f1)).count a : Int)) (by omega) (by omega) (by omega)
    have e : leadsL (ins.drop i) = ins[i].f4.map (·.f1) ++ leadsL (ins.drop (i + 1)) := by rw [List.drop_eq_getElem_cons hi]; rfl
    rw [e, List.count_append, show n + ((((ins[i].f4.map (·.f1)).count a + (leadsL (ins.drop (i + 1))).count a) : Nat) : Int) = n + ((ins[i].f4.map (·.f1)).count a : Int) + ((leadsL (ins.drop (i + 1))).count a : Int) by omega]
    exact Ev.step (fun k => qg.l0.eq_2 ..) (Ev.ip (by omega) (Ev.ip (by omega) (Ev.ip (by omega) (links_impl_l1 ins a i hi h6 h10 ins[i].f4.length 0 n (by omega) h0 (by omega) (by simpa using h)))))
theorem linksOf_ev (a : Int) (h10 : ins.length ≤ 10) (hok : ∀ x ∈ ins, x.f4.length ≤ 6) : Ev (fun k => qg.f k ins a) ((leadsL ins).count a : Int) := by
  have := links_impl ins a h10 hok ins.length 0 0 (by omega) (by omega) (by omega)
  simpa [qg.f] using this
theorem links_spec_l1 (a : Int) (i : Nat) (hi : i < ins.length) (h6 : ins[i].f4.length ≤ 6) (h10 : ins.length ≤ 10) {R : Int} : ∀ (d j : Nat) (n : Int), ins[i].f4.length = j + d → 0 ≤ n → n + d ≤ 1000 →
    Ev (fun k => q22.l0 k ins a (n + (((ins[i].f4.drop j).map (·.f1)).count a : Int)) ((i + 1 : Nat) : Int)) R → Ev (fun k => q22.l1 k ins a n (i : Int) (j : Int)) R := by
  have hx := rdT_eq ins i hi
  intro d
  induction d with
  | zero =>
    intro j n he h0 h1 hR
    rw [List.drop_of_length_le (by omega), ← w1 i (by omega)] at hR
    simp only [List.map_nil, List.count_nil, Int.natCast_zero, Int.add_zero] at hR
    exact Ev.step (fun k => q22.l1.eq_2 ..) (Ev.ip (by omega) (Ev.ip (by omega) (Ev.im (by rw [hx]; omega) hR)))
  | succ d ih =>
    intro j n he h0 h1 hR
    have hj : j < ins[i].f4.length := by omega
    have hy : rd_T143 (rd_T86 ins (i : Int)).f4 (j : Int) = ins[i].f4[j] := by rw [hx, rdE_eq _ j hj]
    rw [List.drop_eq_getElem_cons hj, List.map_cons, List.count_cons, ← hy] at hR
    by_cases e : (rd_T143 (rd_T86 ins (i : Int)).f4 (j : Int)).f1 = a
    · rw [if_pos (by simpa using e)] at hR
      have h := ih (j + 1) (n + 1) (by omega) (by omega) (by omega) (by
        rw [show n + 1 + (((ins[i].f4.drop (j + 1)).map (·.f1)).count a : Int) = n + ((((ins[i].f4.drop (j + 1)).map (·.f1)).count a + 1 : Nat) : Int) by omega]; exact hR)
      rw [← w1 j (by omega), ← w64_id (n + 1) (by omega) (by omega)] at h
      exact Ev.step (fun k => q22.l1.eq_2 ..) (Ev.ip (by omega) (Ev.ip (by omega) (Ev.ip (by rw [hx]; omega) (Ev.ip (by omega) (Ev.ip e h)))))
    · rw [if_neg (by simpa using e)] at hR
      have h := ih (j + 1) n (by omega) h0 (by omega) (by simpa using hR)
      rw [← w1 j (by omega)] at h
      exact Ev.step (fun k => q22.l1.eq_2 ..) (Ev.ip (by omega) (Ev.ip (by omega) (Ev.ip (by rw [hx]; omega) (Ev.ip (by omega) (Ev.im e h)))))
theorem links_spec (a : Int) (h10 : ins.length ≤ 10) (hok : ∀ x ∈ ins, x.f4.length ≤ 6) : ∀ (d i : Nat) (n : Int), ins.length = i + d → 0 ≤ n → n ≤ 6 * i → Ev (fun k => q22.l0 k ins a n (i : Int)) (n + ((leadsL (ins.drop i)).count a : Int)) := by
  intro d
  induction d with
  | zero =>
    intro i n hl h0 h1
    rw [List.drop_of_length_le (by omega)]
    simp only [leadsL, List.flatMap_nil, List.count_nil, Int.natCast_zero, Int.add_zero]
    exact Ev.step (fun k => q22.l0.eq_2 ..) (Ev.im (by omega) (Ev.now _))
  | succ d ih =>
    intro i n hl h0 h1
    have hi : i < ins.length := by omega
    have h6 := hok _ (List.getElem_mem hi)
    have hc : (ins[i].f4.map (·.f1)).count a ≤ (ins[i].f4.map (·.f1)).length := List.count_le_length
    rw [List.length_map] at hc
    have h := ih (i + 1) (n + ((ins[i].f4.map (·.f1)).count a : Int)) (by omega) (by omega) (by omega)
    have e : leadsL (ins.drop i) = ins[i].f4.map (·.f1) ++ leadsL (ins.drop (i + 1)) := by rw [List.drop_eq_getElem_cons hi]; rfl
    rw [e, List.count_append, show n + ((((ins[i].f4.map (·.f1)).count a + (leadsL (ins.drop (i + 1))).count a) : Nat) : Int) = n + ((ins[i].f4.map (·.f1)).count a : Int) + ((leadsL (ins.drop (i + 1))).count a : Int) by omega]
    exact Ev.step (fun k => q22.l0.eq_2 ..) (Ev.ip (by omega) (links_spec_l1 ins a i hi h6 h10 ins[i].f4.length 0 n (by omega) h0 (by omega) (by simpa using h)))
theorem l5Links_ev (a : Int) (h10 : ins.length ≤ 10) (hok : ∀ x ∈ ins, x.f4.length ≤ 6) : Ev (fun k => q22.f k ins a) ((leadsL ins).count a : Int) := by
  have := links_spec ins a h10 hok ins.length 0 0 (by omega) (by omega) (by omega)
  simpa [q22.f] using this
theorem among_loop (L : List Int) (v : Int) (hl : L.length ≤ 4611686018427387904) : ∀ (d i : Nat), L.length = i + d → Ev (fun k => q1z.l0 k L v (i : Int)) (decide (v ∈ L.drop i)) := by
  intro d
  induction d with
  | zero =>
    intro i he
    rw [List.drop_of_length_le (by omega)]
    exact Ev.step (fun k => q1z.l0.eq_2 ..) (Ev.im (by omega) (Ev.val fun _ => by simp))
  | succ d ih =>
    intro i he
    have hi : i < L.length := by omega
    rw [List.drop_eq_getElem_cons hi, ← rd_eq L i hi]
    by_cases e : rd L (i : Int) = v
    · exact Ev.step (fun k => q1z.l0.eq_2 ..) (Ev.ip (by omega) (Ev.ip (by omega) (Ev.ip e (Ev.val fun _ => by simp [e]))))
    · have h := ih (i + 1) (by omega)
      rw [← w1 i (by omega)] at h
      have e2 : decide (v ∈ rd L (i : Int) :: L.drop (i + 1)) = decide (v ∈ L.drop (i + 1)) := decide_eq_decide.2 (by simp [Ne.symm e])
      rw [e2]
      exact Ev.step (fun k => q1z.l0.eq_2 ..) (Ev.ip (by omega) (Ev.ip (by omega) (Ev.im e h)))
theorem among_ev (L : List Int) (v : Int) (hl : L.length ≤ 4611686018427387904) : Ev (fun k => q1z.f k L v) (decide (v ∈ L)) := by
  have := among_loop L v hl L.length 0 (by omega)
  simpa [q1z.f] using this
/-- are an inode's links right? -/
def linkOK (L : List Int) (i : Nat) (x : S86) : Bool :=
  if x.f0 = 0 then true else
  if x.f0 = 1 then decide ((leadsL ins).count (i : Int) = x.f1) && decide ((i : Int) ∈ L) else
  if i = 0 then decide ((leadsL ins).count (i : Int) = 0) && decide ((i : Int) ∈ L) else
  decide ((leadsL ins).count (i : Int) = 1) && decide ((i : Int) ∈ L)
def linksOK (L : List Int) : List S86 → Nat → Bool
  | [], _ => true
  | x :: r, i => linkOK ins L i x && linksOK L r (i + 1)
theorem kind_cases {x : S86} (h : InodeOK x) : x.f0 = 0 ∨ x.f0 = 1 ∨ x.f0 = 2 := by
  rcases h with ⟨h, _⟩ | ⟨h, _⟩ | ⟨h, _⟩ <;> omega
theorem linksF_loop (h10 : ins.length ≤ 10) (hok : ∀ x ∈ ins, InodeOK x) (L : List Int) (hL : L.length ≤ 10) : ∀ (d i : Nat), ins.length = i + d →
    Ev (fun k => qf.l0 k L ins (ins.length : Int) (i : Int) ins data) (if linksOK ins L (ins.drop i) i then 0 else 1) ∧ Ev (fun k => q26.l0 k L (i : Int) ins data) (linksOK ins L (ins.drop i) i) := by
  intro d
  induction d with
  | zero =>
    intro i he
    rw [List.drop_of_length_le (by omega)]
    exact ⟨Ev.step (fun k => qf.l0.eq_2 ..) (Ev.im (by omega) (Ev.now _)), Ev.step (fun k => q26.l0.eq_2 ..) (Ev.im (by omega) (Ev.now _))⟩
  | succ d ih =>
    intro i he
    have hi : i < ins.length := by omega
    have hx := rdT_eq ins i hi
    have hk := kind_cases (hok _ (List.getElem_mem hi))
    rw [List.drop_eq_getElem_cons hi, linksOK, ← hx]
    rw [← hx] at hk
    have hA := linksOf_ev ins (i : Int) h10 (fun x hx => (hok x hx).es.1)
    have hB := l5Links_ev ins (i : Int) h10 (fun x hx => (hok x hx).es.1)
    have hM := cont_ev L (i : Int) (by omega)
    have hM2 := among_ev L (i : Int) (by omega)
    obtain ⟨iha, ihb⟩ := ih (i + 1) (by omega)
    rw [← w1 i (by omega)] at iha ihb
    generalize hX : rd_T86 ins (i : Int) = X at hk ⊢
    have hX0 : (rd_T86 ins (i : Int)).f0 = X.f0 := by rw [hX]
    have hX1 : (rd_T86 ins (i : Int)).f1 = X.f1 := by rw [hX]
    have hm1 : (i : Int) ∈ L → decide ((i : Int) ∈ L) = true := fun h => decide_eq_true h
    have hm2 : ¬ (i : Int) ∈ L → ¬ decide ((i : Int) ∈ L) = true := fun h h2 => h (of_decide_eq_true h2)
    have hval : ∃ b : Bool, linkOK ins L i X = b ∧ (X.f0 = 0 ∧ b = true ∨ X.f0 = 1 ∧ ((X.f1 != ((leadsL ins).count (i : Int) : Int)) = true ∧ ¬ ((leadsL ins).count (i : Int) : Int) = X.f1 ∧ b = false ∨ ¬ (X.f1 != ((leadsL ins).count (i : Int) : Int)) = true ∧ ((leadsL ins).count (i : Int) : Int) = X.f1 ∧ b = decide ((i : Int) ∈ L)) ∨
        X.f0 = 2 ∧ i = 0 ∧ ((((leadsL ins).count (i : Int) : Int) != 0) = true ∧ ¬ (leadsL ins).count (i : Int) = 0 ∧ b = false ∨ ¬ (((leadsL ins).count (i : Int) : Int) != 0) = true ∧ (leadsL ins).count (i : Int) = 0 ∧ b = decide ((i : Int) ∈ L)) ∨
        X.f0 = 2 ∧ i ≠ 0 ∧ ((((leadsL ins).count (i : Int) : Int) != 1) = true ∧ ¬ (leadsL ins).count (i : Int) = 1 ∧ b = false ∨ ¬ (((leadsL ins).count (i : Int) : Int) != 1) = true ∧ (leadsL ins).count (i : Int) = 1 ∧ b = decide ((i : Int) ∈ L))) := by
      refine ⟨_, rfl, ?_⟩
      rcases hk with h | h | h
      · exact .inl ⟨h, by simp [linkOK, h]⟩
      · refine .inr (.inl ⟨h, ?_⟩)
        by_cases hc : ((leadsL ins).count (i : Int) : Int) = X.f1
        · exact .inr ⟨by rw [hc]; simp, hc, by simp [linkOK, h, hc]⟩
        · exact .inl ⟨by simpa using fun h => hc h.symm, hc, by simp [linkOK, h, hc]⟩
      · by_cases hz : i = 0
        · refine .inr (.inr (.inl ⟨h, hz, ?_⟩))
          by_cases hc : (leadsL ins).count (i : Int) = 0
          · exact .inr ⟨by rw [hc]; simp, hc, by simp [linkOK, h, hz, show (leadsL ins).count 0 = 0 by simpa [hz] using hc]⟩
          · exact .inl ⟨by rw [bne_iff_ne]; omega, hc, by simp [linkOK, h, hz, show ¬ (leadsL ins).count 0 = 0 by simpa [hz] using hc]⟩
        · refine .inr (.inr (.inr ⟨h, hz, ?_⟩))
          by_cases hc : (leadsL ins).count (i : Int) = 1
          · exact .inr ⟨by rw [hc]; simp, hc, by simp [linkOK, h, hz, hc]⟩
          · exact .inl ⟨by rw [bne_iff_ne]; omega, hc, by simp [linkOK, h, hz, hc]⟩
    obtain ⟨b, hb, hcs⟩ := hval
    rw [hb]
    have hX1' : ∀ {n : Int}, ((rd_T86 ins (i : Int)).f1 != n) = (X.f1 != n) := fun {n} => by rw [hX1]
    have tick : ∀ (P : Prop), (b = false → P) → (b = decide ((i : Int) ∈ L) → P) → (b = true → P) → True := fun _ _ _ _ => trivial
    clear tick hk hb
    rcases hcs with ⟨h0, rfl⟩ | ⟨h1, ⟨hc, hc2, rfl⟩ | ⟨hc, hc2, rfl⟩⟩ | ⟨h2, hz, ⟨hc, hc2, rfl⟩ | ⟨hc, hc2, rfl⟩⟩ | ⟨h2, hz, ⟨hc, hc2, rfl⟩ | ⟨hc, hc2, rfl⟩⟩
    all_goals (try rw [← hX1'] at hc)
    all_goals (first | (by_cases hm : (i : Int) ∈ L) | skip)
    all_goals (try (have hd := hm1 hm; (try rw [hd]); rw [Bool.true_and]))
    all_goals (try (have hd := hm2 hm; (try rw [Bool.eq_false_iff.2 hd]); rw [Bool.false_and]))
    all_goals (try rw [Bool.true_and])
    all_goals (try rw [Bool.false_and])
    all_goals refine ⟨Ev.step (fun k => qf.l0.eq_2 ..) ?_, Ev.step (fun k => q26.l0.eq_2 ..) ?_⟩
    all_goals repeat (first | with_reducible exact iha | with_reducible exact ihb | with_reducible exact Ev.now _ | exact Ev.now (0 : Int) | exact Ev.now (1 : Int) | with_reducible refine Ev.bind hA ?_ | with_reducible refine Ev.bind hB ?_ | with_reducible refine Ev.bind hM ?_ | with_reducible refine Ev.bind hM2 ?_ | with_reducible refine Ev.step (fun k => qf.j1.eq_2 ..) ?_ | with_reducible refine Ev.step (fun k => qf.j2.eq_2 ..) ?_ | with_reducible refine Ev.step (fun k => qf.j3.eq_2 ..) ?_ | (refine Ev.ip ?_ ?_; first | omega | assumption) | (refine Ev.im ?_ ?_; first | omega | assumption | exact Bool.false_ne_true))
/-- what the whole code says -/
structure FsOK : Prop extends TreeOK ins data where
  links : ∃ L : List Int, L.length ≤ 10 ∧ (∀ v : Int, v ∈ L ↔ ∃ i : Nat, v = i ∧ Reach (chL ins) 0 i) ∧ linksOK ins L ins 0 = true
  sizes : sizesOK data (longsL ins) = true
theorem okL_all (hok : ∀ x ∈ ins, InodeOK x) : ins.all okL = true := by
  rw [List.all_eq_true]
  intro x hx
  have h := hok x hx
  have hb := h.bl
  have h2 : -1000 ≤ x.f2 ∧ x.f2 ≤ 1000 := by
    rcases h with ⟨_, h, _⟩ | ⟨_, _, h, _⟩ | ⟨_, _, h, _⟩
    · have := h.size; omega
    · omega
    · omega
  simp only [okL, Bool.and_eq_true, List.all_eq_true, decide_eq_true_eq]
  exact ⟨⟨fun b hb' => by have := hb.2 b hb'; omega, by omega⟩, h2⟩
theorem fs_both (hs : ∀ x ∈ ins, SzI x) : ∃ r, Ev (fun k => qb.f k ins data) r ∧ Ev (fun k => q25.f k ins data) r ∧ (r = 0 → FsOK ins data) := by
  obtain ⟨t, ha, hb, hp⟩ := tree_both ins data hs
  unfold qb.f q25.f
  by_cases ht : t = 0
  case neg => exact ⟨t, Ev.bind ha (Ev.im ht (Ev.now _)), Ev.bind hb (Ev.im ht (Ev.now _)), fun h => absurd h ht⟩
  have hT := hp ht
  obtain ⟨L, hL, ra, rb, hm⟩ := reach_both (data := data) hT.len hT.pos hT.ino hT.ents
  obtain ⟨la, lb⟩ := linksF_loop ins data hT.len hT.ino L hL ins.length 0 (by omega)
  rw [List.drop_zero] at la lb
  have hla : Ev (fun k => qf.f k ins data) (if linksOK ins L ins 0 then 0 else 1) := by unfold qf.f; exact Ev.bind ra la
  have hlb : Ev (fun k => q26.f k ins data) (linksOK ins L ins 0) := by unfold q26.f; exact Ev.bind rb lb
  have hall := okL_all ins hT.ino
  have hd : ∀ k : Nat, q7.f ins data = some (dfCode (sizesOK data (longsL ins))) := fun _ => by unfold q7.f; rw [if_pos ⟨hall, hT.d20⟩]
  have hz : ∀ k : Nat, q29.f ins data = some (sizesOK data (longsL ins)) := fun _ => by unfold q29.f; rw [if_pos ⟨hall, hT.d20⟩]
  cases hl : linksOK ins L ins 0 with
  | false =>
    rw [hl] at hla hlb
    exact ⟨1, Ev.bind ha (Ev.ip ht (Ev.bind hla (Ev.im (by simp) (Ev.now _)))), Ev.bind hb (Ev.ip ht (Ev.bind hlb (Ev.im (by simp) (Ev.now _)))), by omega⟩
  | true =>
    rw [hl] at hla hlb
    cases hsz : sizesOK data (longsL ins) with
    | false =>
      rw [hsz] at hd hz
      exact ⟨1, Ev.bind ha (Ev.ip ht (Ev.bind hla (Ev.ip (by simp) (Ev.bind (Ev.val hd) (Ev.now _))))), Ev.bind hb (Ev.ip ht (Ev.bind hlb (Ev.ip rfl (Ev.bind (Ev.val hz) (Ev.im (by simp) (Ev.now _)))))), by omega⟩
    | true =>
      rw [hsz] at hd hz
      exact ⟨0, Ev.bind ha (Ev.ip ht (Ev.bind hla (Ev.ip (by simp) (Ev.bind (Ev.val hd) (Ev.now _))))), Ev.bind hb (Ev.ip ht (Ev.bind hlb (Ev.ip rfl (Ev.bind (Ev.val hz) (Ev.ip rfl (Ev.now _)))))), fun _ => ⟨hT, ⟨L, hL, hm, hl⟩, hsz⟩⟩
end
end Go.Proofs.YtafhjhdohclchaaGreatDoor.G
namespace Go.Proofs.YtafhjhdohclchaaGreatDoor.G
open Go.RowKit Go.Proofs.YtafhjhdohclchaaGreatDoorW.PrintWords Go.Proofs.YtafhjhdohclchaaGreatDoorW.PrintLast Go.Proofs.YtafhjhdohclchaaGreatDoorW.PrintMore
attribute [local go_sem] min2_int min_two
/-- The bytes of the path of names: a slash ahead of each. -/
def pathL (l : List (List UInt8)) : List UInt8 := l.flatMap fun n => 47 :: n
theorem pathL_join (x : List UInt8) (r : List (List UInt8)) : 47 :: Lib.join (x :: r) [47] = pathL (x :: r) := by
  rw [Lib.join_cons]
  simp [pathL, Lib.joinTail, List.flatMap]
theorem cut_join : ∀ (r : List (List UInt8)) (x : List UInt8), (∀ n ∈ x :: r, ∀ b ∈ n, b ≠ 47) → cutL 47 (Lib.join (x :: r) [47]) = x :: r
  | [], x, h => by
    rw [Lib.join_one]
    exact cutL_none 47 x (h x (by simp))
  | y :: r, x, h => by
    have e : Lib.join (x :: y :: r) [47] = x ++ 47 :: Lib.join (y :: r) [47] := by
      rw [pathL_join, Lib.join_cons]
      simp [pathL, Lib.joinTail, List.flatMap]
    rw [e, cutL_at 47 x _ (h x (by simp)), cut_join r y (fun n hn => h n (by simp [hn]))]
theorem pathL_snoc (l : List (List UInt8)) (x : List UInt8) : pathL (l ++ [x]) = pathL l ++ 47 :: x := by simp [pathL]
theorem pathL_length (l : List (List UInt8)) (m : Nat) (h : ∀ n ∈ l, n.length ≤ m) : (pathL l).length ≤ l.length * (m + 1) := by
  induction l with
  | nil => simp [pathL]
  | cons x r ih =>
    have h1 := ih (fun n hn => h n (by simp [hn]))
    have h2 := h x (by simp)
    simp only [pathL, List.flatMap_cons, List.length_append, List.length_cons] at h1 ⊢
    rw [Nat.add_mul]
    omega
end Go.Proofs.YtafhjhdohclchaaGreatDoor.G
namespace Go.Proofs.YtafhjhdohclchaaGreatDoor.G
open Go.RowKit Go.Proofs.YtafhjhdohclchaaGreatDoorW.PrintWords Go.Proofs.YtafhjhdohclchaaGreatDoorW.PrintLast Go.Proofs.YtafhjhdohclchaaGreatDoorW.PrintMore
attribute [local go_sem] min2_int min_two
attribute [local go_sem high] str_leq
attribute [local go_sem] binOp_string_geq
set_option maxHeartbeats 2000000 in
set_option maxRecDepth 100000 in
theorem slices_Grow_nil (n : Int) (w : World) (h0 : 0 ≤ n) (h1 : n ≤ 1000000) :
    Calls Tryz.prog 283 #[.slice none 0 0, .int .i64 n] w fun e w' => ∃ v0_ : Value, e = .returned v0_ ∧ Kd.R Kd.string 9 w' w.heap.size (fun _ => True) v0_ [] ∧ Below w.heap.size w w' := by
  have hz : IntKind.i64.wrap (0 - 0) = 0 := by decide
  have hw : IntKind.i64.wrap n = n := (i64_w _).trans (IntWalk.wrap64_in _ ⟨by omega, by omega⟩)
  have hw2 : IntKind.i64.wrap (n - 0) = n := by rw [Int.sub_zero]; exact hw
  have hneg : ¬ n < 0 := by omega
  go_enter Tryz.func283, Tryz.ntmps283
  by_cases hn : n = 0
  · subst hn
    go_wp2_with fail
    go_ret
    exact ⟨_, rfl, Kd.R_nil _ _ _ _ _, Below.refl _ _⟩
  · have hpos : (0 : Int) < n := by omega
    go_wp2_with (((with_reducible refine gate_builtin (b := .append) (xs := #[.tmp 20, .tmp 21]) rfl ?_); at_builtin; refine Kd.R_append_zeros Kd.string (w0 := w) w.heap.size rfl (.tmp 20) (.tmp 21) 24 3 9 (.string ⟨#[]⟩) 16 rfl Tryz.underlying24 Tryz.underlying3 info9 rfl (by decide) (by omega) (.slice none 0 0) [] ByteArray.empty n (fun _ => True) rfl rfl rfl (fun _ _ => trivial) (Kd.R_nil _ _ _ _ _) h0 (Below.refl _ _) (Nat.le_refl _) (by simp; omega) ?_; intro v1 w1 ho hb hg hat; clear hg hat; obtain ⟨g, cap, rfl, hgb, hgl, cl, hgc⟩ := Kd.R_form ho (by simp; omega); have HO := Aside0.mk ho; have HB := Aside0.mk hb; clear ho hb hgb hgl hgc cl))
    go_ret
    exact ⟨_, rfl, Kd.R_take (m := 0) HO.out (Nat.zero_le _), HB.out⟩
theorem flat_take_le {α : Type} (l : List (List α)) (i : Nat) : (l.take i).flatten.length ≤ l.flatten.length := by
  have h := congrArg List.length (congrArg List.flatten (List.take_append_drop i l))
  rw [List.flatten_append, List.length_append] at h
  omega
theorem flat_take_succ {l : List (List ByteArray)} (i : Int) (h0 : 0 ≤ i) (h1 : i < (l.length : Int)) : (l.take (i + 1).toNat).flatten = (l.take i.toNat).flatten ++ rd_L12 l i := by
  have hl : i.toNat < l.length := by omega
  rw [show (i + 1).toNat = i.toNat + 1 by omega, List.take_succ_eq_append_getElem hl, List.flatten_append]
  simp [rd_L12, List.getD_eq_getElem?_getD, List.getElem?_eq_getElem hl]
def slices_Concat_string_string.f (l0 : List (List ByteArray)) : Option (List ByteArray) := if l0.flatten.length ≤ 1000000 then some l0.flatten else none
set_option maxHeartbeats 4000000 in
set_option maxRecDepth 100000 in
theorem slices_Concat_string_string.calls (A0 : Option Addr) (c0 : Nat) (l0 : List (List ByteArray)) (r : List ByteArray) (w : World) (hr0 : Kd.C (Kd.slice 9 Kd.string) w A0 l0.length l0) (hc0 : l0.length ≤ c0) (h : slices_Concat_string_string.f l0 = some r) :
    Calls Tryz.prog 246 #[.slice A0 l0.length c0] w fun e w' => ∃ v0_ : Value, e = .returned v0_ ∧ Kd.R Kd.string 9 w' w.heap.size (fun _ => True) v0_ r ∧ Below w.heap.size w w' := by
  unfold slices_Concat_string_string.f at h
  by_cases hlen : l0.flatten.length ≤ 1000000
  case neg => rw [if_neg hlen] at h; cases h
  rw [if_pos hlen] at h
  injection h with h
  subst h
  have hlm : (l0.length : Int) ≤ 9223372036854775807 := by have := hr0.2.1; omega
  have HR0 := Aside0.mk hr0
  have HLEN := Aside0.mk hlen
  clear hr0 hc0 hlen
  go_enter Tryz.func246, Tryz.ntmps246
  go_wp2_with fail
  go_loopw [3, 11] (fun v3 v11 wr => ∃ (i : Int), v3 = .int .i64 ((l0.take i.toNat).flatten.length : Int) ∧ v11 = .int .i64 i ∧ 0 ≤ i ∧ i ≤ (l0.length : Int) ∧ Aside0 (Below w.heap.size w wr)) (fun _ v11 _ => l0.length - (intOf v11).toNat)
  case atStart => exact ⟨0, by simp, rfl, by omega, by omega, ⟨Below.refl _ _⟩⟩
  case round =>
    obtain ⟨i, rfl, rfl, hi0, hi1, HB⟩ := hrel
    by_cases hlt : i < (l0.length : Int)
    · obtain ⟨ad, A3, c3, e1, hx, hl3, hi3⟩ := at_L12 HR0.out i hi0 hlt
      cases e1
      replace hx := (HB.out.cell (World.block_lt_of_cell? w _ hx)).trans hx
      have hft := flat_take_succ i hi0 hlt
      have hb1 := flat_take_le l0 (i + 1).toNat
      rw [hft, List.length_append] at hb1
      have hbb := HLEN.out
      generalize hX : rd_L12 l0 i = X at hx hl3 hi3 hft hb1
      generalize hF : (l0.take i.toNat).flatten.length = F at hb1
      have hsum : IntKind.i64.wrap ((F : Int) + (X.length : Int)) = (F : Int) + (X.length : Int) := (i64_w _).trans (IntWalk.wrap64_in _ ⟨by omega, by omega⟩)
      have hnn : ¬ ((F : Int) + (X.length : Int)) < 0 := by omega
      have HFT := Aside0.mk hft
      have HF := Aside0.mk hF
      clear hl3 hi3 hft hb1 hbb hX hF
      go_wp2_with fail
      go_roundw
      case rel => exact ⟨i + 1, by rw [HFT.out, List.length_append, HF.out]; simp, rfl, by omega, by omega, HB⟩
      case measure => simp [intOf]; omega
    · have hie : i = (l0.length : Int) := by omega
      have hF : (l0.take i.toNat).flatten.length = l0.flatten.length := by rw [hie, Int.toNat_natCast, List.take_length]
      rw [hF]
      have hfl := HLEN.out
      generalize hFL : l0.flatten.length = FL at hfl ⊢
      have HFL := Aside0.mk hfl
      clear hF hfl hFL
      go_wp2_with fail
      refine (slices_Grow_nil _ _ (by omega) (by have := HFL.out; omega)).mono ?_
      rintro e w1 ⟨v, rfl, hv, hb⟩
      have HV1 : Aside0 (Kd.R Kd.string 9 w1 w.heap.size (fun _ => True) v []) := ⟨Kd.R_lower hv HB.out.size⟩
      have HB1 : Aside0 (Below w.heap.size w w1) := ⟨below_weaken HB.out HB.out.size hb⟩
      clear hv hb HB hie
      go_wp2_with fail
      go_loopw [6, 27] (fun v6 v27 wr => ∃ (j : Int), v27 = .int .i64 j ∧ 0 ≤ j ∧ j ≤ (l0.length : Int) ∧ Aside0 (Below w.heap.size w wr) ∧ Aside0 (Kd.R Kd.string 9 wr w.heap.size (fun _ => True) v6 (l0.take j.toNat).flatten)) (fun _ v27 _ => l0.length - (intOf v27).toNat)
      case atStart => exact ⟨0, rfl, by omega, by omega, HB1, ⟨by simpa using HV1.out⟩⟩
      case round =>
        obtain ⟨j, rfl, hj0, hj1, HB, HV⟩ := hrel
        by_cases hlt : j < (l0.length : Int)
        · obtain ⟨ad, A3, c3, e1, hx, hl3, hi3⟩ := at_L12 HR0.out j hj0 hlt
          cases e1
          replace hx := (HB.out.cell (World.block_lt_of_cell? w _ hx)).trans hx
          have hft := flat_take_succ j hj0 hlt
          have hb1 := flat_take_le l0 (j + 1).toNat
          rw [hft, List.length_append] at hb1
          have hbb := HLEN.out
          generalize hX : rd_L12 l0 j = X at hx hl3 hi3 hft hb1
          generalize hF : (l0.take j.toNat).flatten = F at hb1 HV hft
          have HFT := Aside0.mk hft
          have HI3 := Aside0.mk (Kd.C_below hi3 HB.out)
          have HS : Aside0 (F.length + X.length ≤ 1000000) := ⟨by omega⟩
          clear hl3 hi3 hft hb1 hbb hX hF
          go_wp2_with (((with_reducible refine gate_builtin (b := .append) (xs := #[.tmp 31, .tmp 32]) rfl ?_); at_builtin; refine Kd.R_append_rows Kd.string (w0 := w) w.heap.size rfl (.tmp 31) (.tmp 32) 24 9 (.string ⟨#[]⟩) 16 rfl Tryz.underlying24 info9 rfl (by decide) (by omega) _ F X A3 X.length c3 (fun _ => True) (fun _ => False) rfl rfl HV.out HI3.out (fun _ _ h => h) (fun _ h => h.elim) (fun _ _ => trivial) HB.out HB.out.size (by have := HS.out; omega) ?_; intro v1 w2 ho hb hg hat; clear hg hat; have HO2 := Aside0.mk ho; have HB2 := Aside0.mk hb; clear ho hb))
          go_roundw
          case rel => exact ⟨j + 1, rfl, by omega, by omega, HB2, ⟨by rw [HFT.out]; exact HO2.out⟩⟩
          case measure => simp [intOf]; omega
        · have hje : j = (l0.length : Int) := by omega
          have hv := HV.out
          rw [hje, Int.toNat_natCast, List.take_length] at hv
          have HV2 := Aside0.mk hv
          clear hv HV hje
          go_wp2_with fail
          go_ret
          exact ⟨_, rfl, HV2.out, HB.out⟩
end Go.Proofs.YtafhjhdohclchaaGreatDoor.G
namespace Go.Proofs.YtafhjhdohclchaaGreatDoor.G
open Go.RowKit Go.Proofs.YtafhjhdohclchaaGreatDoorW.PrintWords Go.Proofs.YtafhjhdohclchaaGreatDoorW.PrintLast Go.Proofs.YtafhjhdohclchaaGreatDoorW.PrintMore
attribute [local go_sem] min2_int min_two
attribute [local go_sem high] str_leq
attribute [local go_sem] binOp_string_geq
theorem strs_form {w : World} {A : Option Addr} {xs : List ByteArray} (h : Kd.C Kd.string w A xs.length xs) (hp : 0 < xs.length) : ∃ b o, A = some ⟨b, o, none⟩ ∧ b < w.heap.size ∧ ∀ (j : Nat) x, xs[j]? = some x → w.cell? ⟨b, o + j, none⟩ = some (.string x) := by
 obtain ⟨ad, e, hx⟩ := Kd.at_string h 0 (by omega) (by omega)
 obtain ⟨b, o, sp⟩ := ad
 have hx' : w.cell? ⟨b, o, sp⟩ = some (.string (rdOf ByteArray.empty xs 0)) := by simpa [Addr.add] using hx
 have hsp : sp = none := by
  unfold World.cell? at hx'
  split at hx'
  ·by_cases hs : sp.isSome
   ·simp [hs] at hx'
   ·simpa using hs
  ·cases hx'
 subst hsp
 refine ⟨b, o, e, World.block_lt_of_cell? w _ hx', fun j x hj => ?_⟩
 have hjl : j < xs.length := by
  rcases Nat.lt_or_ge j xs.length with h1 | h1
  ·exact h1
  ·rw [List.getElem?_eq_none h1] at hj; cases hj
 obtain ⟨ad2, e2, hx2⟩ := Kd.at_string h (j : Int) (by omega) (by omega)
 rw [e] at e2
 injection e2 with e2
 subst e2
 have hr : rdOf ByteArray.empty xs (j : Int) = x := by simp [rdOf, List.getD_eq_getElem?_getD, hj]
 rw [hr] at hx2
 have ha : (⟨b, o, none⟩ : Addr).add (j : Int).toNat = ⟨b, o + j, none⟩ := by
  simp only [Int.toNat_natCast, Addr.add]
  split
  ·simp [*]
  ·rfl
 rw [ha] at hx2
 exact hx2
def q2g.f (l0 : List ByteArray) (a1 : ByteArray) : Option ByteArray := if l0.length ≤ 140737488355328 ∧ (Lib.join (l0.map (·.data.toList)) a1.data.toList).length ≤ 140737488355328 then some ⟨(Lib.join (l0.map (·.data.toList)) a1.data.toList).toArray⟩ else none
theorem q2g.calls (A0 : Option Addr) (c0 : Nat) (l0 : List ByteArray) (a1 : ByteArray) (r : ByteArray) (w : World) (hr0 : Kd.C Kd.string w A0 l0.length l0) (hc0 : l0.length ≤ c0) (h : q2g.f l0 a1 = some r) :
  Calls Tryz.prog 284 #[.slice A0 l0.length c0, .string a1] w fun e w' => e = .returned (.string r) ∧ Below w.heap.size w w' := by
 unfold q2g.f at h
 by_cases hok : l0.length ≤ 140737488355328 ∧ (Lib.join (l0.map (·.data.toList)) a1.data.toList).length ≤ 140737488355328
 case neg => rw [if_neg hok] at h; cases h
 rw [if_pos hok] at h
 injection h with h
 subst h
 by_cases hp : 0 < l0.length
 ·obtain ⟨b, o, rfl, hb, hcells⟩ := strs_form hr0 hp
  exact Tryz.strings_Join b o c0 l0 a1 w hcells hb hok.1 hc0 hok.2
 ·have hn : l0 = [] := List.eq_nil_of_length_eq_zero (by omega)
  subst hn
  refine (Tryz.strings_Join_none A0 c0 a1 w).mono ?_
  rintro e w' ⟨rfl, hw⟩
  subst hw
  exact ⟨by simp [Lib.join], Below.refl _ _⟩
def qe.f (l0 : List ByteArray) : Option (ByteArray) := (q2g.f l0 (⟨#[47]⟩ : ByteArray)).bind fun t819 => (if 1 + t819.size ≤ 9223372036854775807 then (some ((⟨#[47]⟩ : ByteArray) ++ t819)) else (none))
set_option maxHeartbeats 8000000 in
set_option maxRecDepth 100000 in
theorem qe.calls (A0 : Option Addr) (c0 : Nat) (l0 : List ByteArray) (r : ByteArray) (w : World) (hr0 : Kd.C Kd.string w A0 l0.length l0) (hc0 : l0.length ≤ c0) (h : qe.f l0 = some r) :
  Calls Tryz.prog 247 #[.slice A0 l0.length c0] w fun e w' => e = .returned (.string r) ∧ Below w.heap.size w w' := by
 have HR0 := Am hr0
 have HC0 := Am hc0
 clear hr0 hc0
 have HB := Am (Below.refl w.heap.size w)
 have H : ((q2g.f l0 (⟨#[47]⟩ : ByteArray)).bind fun t819 => (if 1 + t819.size ≤ 9223372036854775807 then (some ((⟨#[47]⟩ : ByteArray) ++ t819)) else (none))) = some r := h
 clear h
 replace H := zbs H
 obtain ⟨t819, A2, H⟩ := H
 replace H := ino H
 obtain ⟨c3, H⟩ := H
 have c3b0 := eq_true c3
 have c3b1 : decide (1 + t819.size ≤ 9223372036854775807) = true := decide_eq_true c3
 try have c3b2 : (9223372036854775807 < 1 + t819.size) = False := eq_false (Nat.not_lt.2 c3)
 obtain rfl := Option.some.inj H
 go_enter Tryz.func247, Tryz.ntmps247
 go_wp2_with (((with_reducible refine gate_callee (f := 284) rfl ?_); refine goesL_ (some 4) rfl rfl Tryz.func284 (by kernel_rfl) rfl #[.slice A0 l0.length c0, .string (⟨#[47]⟩ : ByteArray)] rfl (by (try simp only [List.map_toArray, List.map_cons, List.map_nil]); rfl) ?_; (with_reducible refine (q2g.calls _ _ l0 (⟨#[47]⟩ : ByteArray) t819 _ ?side1 ?side2 A2.out).mono ?_); (case side1 => repeat (exact HR0.out)); (case side2 => exact HC0.out); rintro e w4 ⟨rfl, hb⟩; refine ⟨_, rfl, ?_⟩; replace HB := Am (below_step HB.out hb); (try clear hb)))
 go_ret
 exact ⟨by rfl, HB.out⟩
end Go.Proofs.YtafhjhdohclchaaGreatDoor.G
namespace Go.Proofs.YtafhjhdohclchaaGreatDoor.G
open Go.RowKit Go.Proofs.YtafhjhdohclchaaGreatDoorW.PrintWords Go.Proofs.YtafhjhdohclchaaGreatDoorW.PrintLast Go.Proofs.YtafhjhdohclchaaGreatDoorW.PrintMore
attribute [local go_sem] min2_int min_two
attribute [local go_sem high] str_leq
attribute [local go_sem] binOp_string_geq
/-- What pathsBelow appends below one directory: over its entries, by what it appends below each of them. -/
def pbL (g : Int → List ByteArray → Option (List ByteArray)) (names : List ByteArray) : List S143 → Option (List ByteArray)
  | [] => some []
  | e :: r => if names.length + 1 ≤ 1000000 then (qe.f (names ++ [e.f0])).bind fun p => (g e.f1 (names ++ [e.f0])).bind fun sub => (pbL g names r).bind fun rest => some (p :: sub ++ rest) else none
def pbF (ins : List S86) : Nat → Int → List ByteArray → Option (List ByteArray)
  | 0, _, names => if names.length = 6 then some [] else none
  | k + 1, dir, names => if names.length = 6 then some [] else if 0 ≤ dir ∧ dir < (ins.length : Int) then pbL (pbF ins k) names (rd_T86 ins dir).f4 else none
def impl_Fs_paths.f (k : Nat) (s0_0 : List S86) (s0_1 : List (List Int)) : Option (List ByteArray) := (pbF s0_0 k 0 []).bind fun l => if l.length ≤ 1000000 then some (l.take 60) else none
theorem pbL_mono {g g' : Int → List ByteArray → Option (List ByteArray)} (h : ∀ d n, LeO (g d n) (g' d n)) (names : List ByteArray) : ∀ l, LeO (pbL g names l) (pbL g' names l)
  | [] => LeO.refl _
  | e :: r => by
    unfold pbL
    exact LeO.ite (LeO.bind (LeO.refl _) fun p => LeO.bind (h _ _) fun sub => LeO.bind (pbL_mono h names r) fun rest => LeO.refl _) (LeO.refl _)
theorem pbF_mono (ins : List S86) : ∀ k d n, LeO (pbF ins k d n) (pbF ins (k + 1) d n)
  | 0, d, n => by
    unfold pbF
    by_cases h : n.length = 6
    · rw [if_pos h, if_pos h]; exact LeO.refl _
    · rw [if_neg h]; exact LeO.none _
  | k + 1, d, n => by
    unfold pbF
    exact LeO.ite (LeO.refl _) (LeO.ite (pbL_mono (pbF_mono ins k) n _) (LeO.refl _))
theorem impl_Fs_paths.mono : ∀ a0 a1 k, LeO (impl_Fs_paths.f k a0 a1) (impl_Fs_paths.f (k + 1) a0 a1) := by
  intro a0 a1 k
  unfold impl_Fs_paths.f
  exact LeO.bind (pbF_mono _ _ _ _) fun _ => LeO.refl _
section
variable {P : Program} {ops : Array Oper} {Q : Exit → Act → World → Prop} {rest : List Oper} {a : Act} {o : Oper}
/-- A literal slice whose cells are written out. -/
theorem lit_event {W : World} (hgd : o.guard = none) {N : Tmp} (_hd : o.dst = some N) {cs : Array Value} {t : TypeId} {n : Nat}
    (hrun : (execOp a.eval o).run P W = .ok (.value (.slice (some ⟨W.heap.size, 0, none⟩) n n)) (W.alloc (.cells cs t (0, 0))))
    (h : ∀ g, g = W.heap.size → ∀ w1, w1.heap[g]? = some (.cells cs t (0, 0)) → Below W.heap.size W w1 → wpList P ops Q rest (a.put o.dst (.slice (some ⟨g, 0, none⟩) n n)) w1) : wpList P ops Q (o :: rest) a W :=
  Kd.event_run hgd hrun (h _ rfl _ (blk_new W _) (below_alloc (Below.refl _ _) _))
end
theorem pb_le {w wr w8 w9 w10 w11 : World} (h1 : w.heap.size ≤ wr.heap.size) (h2 : wr.heap.size ≤ w8.heap.size) (h3 : Below w8.heap.size w8 w9) (h4 : Below w9.heap.size w9 w10) (h5 : Below w10.heap.size w10 w11) {k : Nat} (hk : w11.heap.size ≤ k) : w.heap.size ≤ k := by
  have := h3.size; have := h4.size; have := h5.size; omega
theorem pb_ne {wr w8 w9 w10 w11 : World} {gb : Nat} {v : Value} {P : Nat → Prop} (h1 : gb < w8.heap.size) (h2 : wr.heap.size ≤ gb) (h3 : Below w8.heap.size w8 w9) (h4 : Below w9.heap.size w9 w10) (h5 : Below w10.heap.size w10 w11) (h : ∀ k, v.ownBlock = some k → P k ∧ (k < wr.heap.size ∨ w11.heap.size ≤ k)) : some gb ≠ v.ownBlock := by
  intro e
  have := h3.size; have := h4.size; have := h5.size
  have := (h gb e.symm).2
  omega
theorem str_raise {w : World} {base B e : Nat} {ok : Nat → Prop} {v : Value} {xs : List ByteArray} (h : Kd.string.R e w base ok v xs) (hB : ∀ k, v.ownBlock = some k → B ≤ k) : Kd.string.R e w B ok v xs := by
  obtain ⟨h0, inner, ⟨h1, h2⟩, hr⟩ := h
  refine ⟨h0, inner, ⟨h1, ?_⟩, hr⟩
  rcases h2 with h2 | ⟨g, cap, cur, rfl, hg, r⟩
  · exact .inl h2
  · exact .inr ⟨g, cap, cur, rfl, hB g (by simp [Value.ownBlock]), r⟩
theorem C_str1 {w : World} {g t : Nat} {s : ByteArray} (hb : w.heap[g]? = some (.cells #[.string s] t (0, 0))) : Kd.C Kd.string w (some ⟨g, 0, none⟩) 1 [s] := by
  refine ⟨rfl, by decide, fun _ => ⟨_, rfl, fun j p hj => ?_⟩⟩
  match j, hj with
  | 0, hj =>
    injection hj with hj
    subst hj
    refine ⟨[.string s], rfl, rfl, fun i u hi => ?_⟩
    match i, hi with
    | 0, hi => injection hi with hi; subst hi; exact (blk_cell hb 0).trans rfl
theorem C_row2 {w : World} {g t n m c c2 : Nat} {A B : Option Addr} {xs ys : List ByteArray} (hb : w.heap[g]? = some (.cells #[.slice A n c, .slice B m c2] t (0, 0))) (hn : xs.length = n) (hm : ys.length = m) (h1 : Kd.C Kd.string w A n xs) (hc1 : n ≤ c) (h2 : Kd.C Kd.string w B m ys) (hc2 : m ≤ c2) :
    Kd.C (Kd.slice 9 Kd.string) w (some ⟨g, 0, none⟩) 2 [xs, ys] := by
  subst hn hm
  refine ⟨rfl, by decide, fun _ => ⟨_, rfl, fun j p hj => ?_⟩⟩
  match j, hj with
  | 0, hj =>
    injection hj with hj
    subst hj
    refine ⟨[.slice A xs.length c], rfl, ⟨A, c, rfl, hc1, h1⟩, fun i u hi => ?_⟩
    match i, hi with
    | 0, hi => injection hi with hi; subst hi; exact (blk_cell hb 0).trans rfl
  | 1, hj =>
    injection hj with hj
    subst hj
    refine ⟨[.slice B ys.length c2], rfl, ⟨B, c2, rfl, hc2, h2⟩, fun i u hi => ?_⟩
    match i, hi with
    | 0, hi => injection hi with hi; subst hi; exact (blk_cell hb 1).trans rfl
set_option maxHeartbeats 4000000 in
set_option maxRecDepth 100000 in
theorem pathsBelow_walk (k : Nat) : ∀ (g : Nat) (ins : List S86) (data : List (List Int)) (dir : Int) (A : Option Addr) (c : Nat) (nm : List ByteArray) (vl : Value) (l r : List ByteArray) (w0 w : World) (P0 : Nat → Prop)
    (hI : IsS28 w0 w g ins data) (hB : Below w0.heap.size w0 w) (hn : ∀ W', Kept w W' P0 → Kd.C Kd.string W' A nm.length nm) (hnc : nm.length ≤ c) (ho : Kd.R Kd.string 9 w w0.heap.size P0 vl l)
    (h : pbF ins k dir nm = some r) (hl : l.length + r.length ≤ 1000000),
    Calls Tryz.prog 201 #[.pointer (some ⟨g, 0, none⟩), .int .i64 dir, .slice A nm.length c, vl] w fun e w' => ∃ v0_ : Value, e = .returned v0_ ∧ Kd.R Kd.string 9 w' w0.heap.size (fun k_ => P0 k_ ∨ w.heap.size ≤ k_) v0_ (l ++ r) ∧ IsS28 w0 w' g ins data ∧ Below w0.heap.size w0 w' ∧ Kept w w' P0 := by
  induction k with
  | zero =>
    intro g ins data dir A c nm vl l r w0 w P0 hI hB hn hnc ho h hl
    unfold pbF at h
    by_cases h6 : nm.length = 6
    · rw [if_pos h6] at h
      injection h with h
      subst h
      have hn6 : ((nm.length : Int) == 6) = true := by simp [h6]
      have H1 := Aside0.mk (And.intro hI (And.intro hB ho))
      clear hI hB hn hnc ho hl
      go_enter Tryz.func201, Tryz.ntmps201
      go_wp2_with fail
      go_ret
      obtain ⟨hI, hB, ho⟩ := H1.out
      exact ⟨_, rfl, by rw [List.append_nil]; exact Kd.R_mono ho (fun k hk => .inl hk), hI, hB, Kept.refl w _⟩
    · rw [if_neg h6] at h; cases h
  | succ k ih =>
    intro g ins data dir A c nm vl l r w0 w P0 hI hB hn hnc ho h hl
    unfold pbF at h
    by_cases h6 : nm.length = 6
    · rw [if_pos h6] at h
      injection h with h
      subst h
      have hn6 : ((nm.length : Int) == 6) = true := by simp [h6]
      have H1 := Aside0.mk (And.intro hI (And.intro hB ho))
      clear hI hB hn hnc ho hl ih
      go_enter Tryz.func201, Tryz.ntmps201
      go_wp2_with fail
      go_ret
      obtain ⟨hI, hB, ho⟩ := H1.out
      exact ⟨_, rfl, by rw [List.append_nil]; exact Kd.R_mono ho (fun k hk => .inl hk), hI, hB, Kept.refl w _⟩
    · rw [if_neg h6] at h
      by_cases hd : 0 ≤ dir ∧ dir < (ins.length : Int)
      case neg => rw [if_neg hd] at h; cases h
      rw [if_pos hd] at h
      obtain ⟨hd0, hd1⟩ := hd
      have hn6 : ((nm.length : Int) == 6) = false := by simp; omega
      have HI := Aside0.mk hI
      obtain ⟨A0, c0, A1, c1, hG, hg, ⟨hr0, hc0⟩, ⟨hr1, hc1⟩⟩ := hI
      have hF0 := cellS28_0 hG
      have hF1 := cellS28_1 hG
      obtain ⟨ad, A3, c3, A4, c4, e1, hx0, hx1, hx2, hx3, hx4, hl3, hi3, hl4, hi4⟩ := at_T86 hr0 dir hd0 hd1
      cases e1
      generalize hE : (rd_T86 ins dir).f4 = E at hx4 hl4 hi4 h
      replace hx4 := pw_cell_below hB hx4
      have HE := Aside0.mk hi4
      have HEL : Aside0 ((E.length : Int) ≤ 9223372036854775807) := ⟨by have := hi4.2.1; omega⟩
      have HB := Aside0.mk hB
      have HN := Aside0.mk hn
      have HNC := Aside0.mk hnc
      have HO := Aside0.mk ho
      have HH := Aside0.mk h
      have HLL := Aside0.mk hl
      have IH := Aside0.mk ih
      clear hg hr0 hc0 hr1 hc1 hx0 hx1 hx2 hx3 hl3 hi3 hl4 hi4 hB hn hnc ho h hl ih hE hG
      go_enter Tryz.func201, Tryz.ntmps201
      go_wp2_with fail
      go_loopw [3, 25] (fun v3 v25 wr => ∃ (j : Int) (dn rest : List ByteArray), v25 = .int .i64 j ∧ 0 ≤ j ∧ j ≤ (E.length : Int) ∧ Aside0 (pbL (pbF ins k) nm (E.drop j.toNat) = some rest) ∧ Aside0 (r = dn ++ rest) ∧ Aside0 (Kd.R Kd.string 9 wr w0.heap.size (fun k_ => P0 k_ ∨ w.heap.size ≤ k_) v3 (l ++ dn)) ∧ Aside0 (IsS28 w0 wr g ins data) ∧ Aside0 (Below w0.heap.size w0 wr) ∧ Aside0 (Kept w wr P0)) (fun _ v25 _ => E.length - (intOf v25).toNat)
      case atStart => exact ⟨0, [], r, rfl, by omega, by omega, ⟨by simpa using HH.out⟩, ⟨rfl⟩, ⟨by rw [List.append_nil]; exact Kd.R_mono HO.out (fun k hk => .inl hk)⟩, HI, HB, ⟨Kept.refl w _⟩⟩
      case round =>
        obtain ⟨j, dn, rest, rfl, hj0, hj1, HP, HRR, HV, HI2, HB2, HK2⟩ := hrel
        by_cases hlt : j < (E.length : Int)
        · obtain ⟨ad5, e5, hy0, hy1⟩ := at_T143 HE.out j hj0 hlt
          cases e5
          replace hy0 := pw_cell_below HB2.out hy0
          replace hy1 := pw_cell_below HB2.out hy1
          have hdr : E.drop j.toNat = rd_T143 E j :: E.drop (j + 1).toNat := by
            have hl : j.toNat < E.length := by omega
            rw [show (j + 1).toNat = j.toNat + 1 by omega, List.drop_eq_getElem_cons hl]
            simp [rd_T143, List.getD_eq_getElem?_getD, List.getElem?_eq_getElem hl]
          have hp := HP.out
          rw [hdr] at hp
          unfold pbL at hp
          generalize hX : rd_T143 E j = X at hy0 hy1 hp
          by_cases hnl : nm.length + 1 ≤ 1000000
          case neg => rw [if_neg hnl] at hp; cases hp
          rw [if_pos hnl] at hp
          obtain ⟨p, hp1, hp⟩ := Option.bind_eq_some_iff.mp hp
          obtain ⟨sub, hp2, hp⟩ := Option.bind_eq_some_iff.mp hp
          obtain ⟨rest2, hp3, hp⟩ := Option.bind_eq_some_iff.mp hp
          injection hp with hp
          obtain ⟨own, hown⟩ : ∃ own, own = nm ++ [X.f0] := ⟨_, rfl⟩
          rw [← hown] at hp1 hp2
          have HP1 := Aside0.mk hp1
          have HP2 := Aside0.mk hp2
          have HP3 := Aside0.mk hp3
          have HPR := Aside0.mk hp
          have HNL := Aside0.mk hnl
          have HOWN := Aside0.mk hown
          clear hp hp1 hp2 hp3 hnl hdr hX HP hown
          go_wp2_with (first | ((with_reducible refine gate_dst (N := 10) rfl ?_); refine box_event ?hg (N := 10) ?hd (cs := #[.string (⟨#[]⟩ : ByteArray), .int .i64 0]) (t := 143) ?hr ?_; (case hd => rfl); (case hg => rfl); (case hr => (go_simp; done)); intro gb hg w5 hbox hb; have HG5 := Aside0.mk hg; have HBX5 := Aside0.mk hbox; have HB5 := Aside0.mk hb; clear hg hbox hb; have hbc0 : w5.cell? ⟨gb, 0, none⟩ = some (.string (⟨#[]⟩ : ByteArray)) := (blk_cell HBX5.out 0).trans rfl; have hbc1 : w5.cell? ⟨gb, 1, none⟩ = some (.int .i64 0) := (blk_cell HBX5.out 1).trans rfl; have hbf0 := blk_frozen HBX5.out 0; have hbf1 := blk_frozen HBX5.out 1) | ((with_reducible refine gate_dst (N := 32) rfl ?_); refine lit_event ?hg (N := 32) ?hd (cs := #[.string X.f0]) (t := 9) (n := 1) ?hr ?_; (case hd => rfl); (case hg => rfl); (case hr => (go_simp; done)); intro g7 hg w7 hbox hb; have HG7 := Aside0.mk hg; have HBX7 := Aside0.mk hbox; have HB7 := Aside0.mk hb; clear hg hbox hb) | ((with_reducible refine gate_dst (N := 33) rfl ?_); refine lit_event ?hg (N := 33) ?hd (cs := #[.slice A nm.length c, .slice (some ⟨g7, 0, none⟩) 1 1]) (t := 24) (n := 2) ?hr ?_; (case hd => rfl); (case hg => rfl); (case hr => (go_simp; done)); intro g8 hg w8 hbox hb; have HG8 := Aside0.mk hg; have HBX8 := Aside0.mk hbox; have HB8 := Aside0.mk hb; clear hg hbox hb))
          have hgb : wr.heap.size ≤ gb := Nat.le_of_eq HG5.out.symm
          have B6 := below_set (j := 1) (v := .int .i64 X.f1) (below_set (j := 0) (v := .string X.f0) HB5.out hgb) hgb
          have hw0 := HB2.out.size
          have hwr := HK2.out.1
          have K6 := ((HK2.out.below HB5.out).setCell (p := ⟨gb, 0, none⟩) (.inr (Nat.le_trans hwr hgb)) (.string X.f0)).setCell (p := ⟨gb, 1, none⟩) (.inr (Nat.le_trans hwr hgb)) (.int .i64 X.f1)
          have I6 := ((HI2.out.below HB5.out).far (p := ⟨gb, 0, none⟩) (by have := HI2.out.lt; show g ≠ gb; omega) (.string X.f0)).far (p := ⟨gb, 1, none⟩) (by have := HI2.out.lt; show g ≠ gb; omega) (.int .i64 X.f1)
          have X6 := blk_put (cs' := #[.string X.f0, .int .i64 X.f1]) (blk_put (cs' := #[.string X.f0, .int .i64 0]) HBX5.out 0 (.string X.f0) rfl) 1 (.int .i64 X.f1) rfl
          have R6 : Kept wr _ (fun _ => False) := (((Kept.refl wr (fun _ => False)).below HB5.out).setCell (p := ⟨gb, 0, none⟩) (.inr hgb) (.string X.f0)).setCell (p := ⟨gb, 1, none⟩) (.inr hgb) (.int .i64 X.f1)
          have hg7 := HG7.out
          have hb7 := HB7.out
          clear hbc0 hbc1 hbf0 hbf1 HG7 HB7
          generalize hW6 : (w5.setCell ⟨gb, 0, none⟩ (.string X.f0)).setCell ⟨gb, 1, none⟩ (.int .i64 X.f1) = W6 at B6 K6 I6 X6 R6 hg7 hb7
          have K8 := (K6.below hb7).below HB8.out
          have B8 := below_then (below_then B6 B6.size hb7) (Nat.le_trans B6.size hb7.size) HB8.out
          have B08 := below_weaken HB2.out hw0 B8
          have I8 := (I6.below hb7).below HB8.out
          have X8 := blk_below (blk_below X6 hb7) HB8.out
          have R8 := (R6.below hb7).below HB8.out
          have C7 := Kd.C_below (C_str1 HBX7.out) HB8.out
          have C8 := C_row2 HBX8.out rfl rfl (HN.out _ K8) HNC.out C7 (Nat.le_refl 1)
          have hF : slices_Concat_string_string.f [nm, [X.f0]] = some own := by
            have e : [nm, [X.f0]].flatten = own := by rw [HOWN.out]; simp
            unfold slices_Concat_string_string.f
            rw [e, if_pos (by rw [HOWN.out, List.length_append]; exact HNL.out)]
          have hwr8 := B8.size
          have hgb8 := blk_lt X8
          clear C7 B6 K6 I6 X6 R6 hg7 hb7 hW6 HBX7 HG8 HBX8 HB8 HBX5 HB5 HG5
          have K8 := Aside0.mk K8
          have B08 := Aside0.mk B08
          have I8 := Aside0.mk I8
          have X8 := Aside0.mk X8
          have R8 := Aside0.mk R8
          have GB := Aside0.mk hgb
          have W08 := Aside0.mk hw0
          have WR8 := Aside0.mk hwr
          have WR := Aside0.mk hwr8
          have GB8 := Aside0.mk hgb8
          clear hgb hw0 hwr hwr8 hgb8
          refine (slices_Concat_string_string.calls _ _ [nm, [X.f0]] own _ C8 (Nat.le_refl 2) hF).mono ?_
          clear C8 hF
          rintro e w9 ⟨v9, rfl, hv9, hb9⟩
          obtain ⟨go, cap, rfl, hgo, hgo2, -⟩ := Kd.R_form hv9 (by rw [HOWN.out]; simp)
          have HV9 := Aside0.mk hv9
          have HB9 := Aside0.mk hb9
          have HGO := Aside0.mk hgo
          have HGO2 := Aside0.mk hgo2
          have hC9 : Kd.C Kd.string w9 (some ⟨go, 0, none⟩) own.length own ∧ own.length ≤ cap := by
            obtain ⟨A9, c9, e9, hl9, hr9⟩ := Kd.R_reads hv9
            injection e9 with e9 _ e10
            subst e9 e10
            exact ⟨hr9, hl9⟩
          have HC9 := Aside0.mk hC9
          clear hv9 hb9 hgo hgo2 hC9
          go_wp2_with fail
          refine (qe.calls _ _ own p _ HC9.out.1 HC9.out.2 HP1.out).mono ?_
          rintro e w10 ⟨rfl, hb10⟩
          have HB10 := Aside0.mk hb10
          have hgbc : w10.cell? ⟨gb, 1, none⟩ = some (.int .i64 X.f1) := (blk_cell (blk_below (blk_below X8.out HB9.out) HB10.out) 1).trans rfl
          have hs : ((l ++ dn).length + 1) * 16 ≤ 140737488355328 := by
            have h1 := HLL.out; have h2 := congrArg List.length HRR.out; have h3 := congrArg List.length HPR.out
            simp only [List.length_append, List.length_cons] at h1 h2 h3 ⊢
            omega
          have HS := Aside0.mk hs
          clear hb10 hgbc hs
          go_wp2_with (first | ((with_reducible refine gate_dst (N := 38) rfl ?_); refine lit_event ?hg (N := 38) ?hd (cs := #[.string p]) (t := 9) (n := 1) ?hr ?_; (case hd => rfl); (case hg => rfl); (case hr => (go_simp; done)); intro g11 hg w11 hbox hb; have HG11 := Aside0.mk hg; have HBX11 := Aside0.mk hbox; have HB11 := Aside0.mk hb; clear hg hbox hb; have HV11 := Aside0.mk (Kd.R_kept (Kd.R_mono (ok' := (fun k => (P0 k ∨ w.heap.size ≤ k) ∧ (k < wr.heap.size ∨ w11.heap.size ≤ k))) (Kd.R_bound HV.out) (fun k hk => ⟨hk.1, .inl hk.2.2.1⟩)) (((R8.out.below HB9.out).below HB10.out).below HB11.out) (fun _ _ h => h)); have B011 := Aside0.mk (below_weaken (below_weaken (below_weaken B08.out B08.out.size HB9.out) (Nat.le_trans B08.out.size HB9.out.size) HB10.out) (Nat.le_trans (Nat.le_trans B08.out.size HB9.out.size) HB10.out.size) HB11.out)) | ((with_reducible refine gate_builtin (b := .append) (xs := #[.tmp 35, .tmp 38]) rfl ?_); at_builtin; refine Kd.R_append_rows Kd.string (w0 := w0) w0.heap.size rfl (.tmp 35) (.tmp 38) 24 9 (.string ⟨#[]⟩) 16 rfl Tryz.underlying24 info9 rfl (by decide) (by omega) _ (l ++ dn) [p] (some ⟨g11, 0, none⟩) 1 1 (fun k => (P0 k ∨ w.heap.size ≤ k) ∧ (k < wr.heap.size ∨ w11.heap.size ≤ k)) (fun _ => False) rfl rfl HV11.out (C_str1 HBX11.out) (fun _ _ h => h) (fun _ h => h.elim) (fun k hk => ⟨.inr (pb_le WR8.out WR.out HB9.out HB10.out HB11.out hk), .inr hk⟩) B011.out B011.out.size HS.out ?_; intro v12 w12 ho hb hg hat; clear hat; have HO12 := Aside0.mk ho; have HB12 := Aside0.mk hb; have HG12 := Aside0.mk hg; have hgbc : w12.cell? ⟨gb, 1, none⟩ = some (.int .i64 X.f1) := (blk_cell ((hg.block gb (blk_lt (blk_below (blk_below (blk_below X8.out HB9.out) HB10.out) HB11.out)) (pb_ne (GB8.out) GB.out HB9.out HB10.out HB11.out HV11.out.1)).trans (blk_below (blk_below (blk_below X8.out HB9.out) HB10.out) HB11.out)) 1).trans rfl; clear ho hb hg))
          have hk11 : Kept w w11 P0 := ((K8.out.below HB9.out).below HB10.out).below HB11.out
          have hk12 : Kept w w12 P0 := Kept.of_grown HG12.out hk11 (fun k hk => (HV11.out.1 k hk).1)
          have hi12 : IsS28 w0 w12 g ins data := (((I8.out.below HB9.out).below HB10.out).below HB11.out).grown HG12.out (IsS28.own_ne (((I8.out.below HB9.out).below HB10.out).below HB11.out) HV11.out (by decide))
          have hown11 := Kd.R_below (Kd.R_below HV9.out HB10.out) HB11.out
          have hgo1 : go < w11.heap.size := by have := HGO2.out; have := HB10.out.size; have := HB11.out.size; omega
          have hgo0 : wr.heap.size ≤ go := Nat.le_trans WR.out HGO.out
          have hown11' := Kd.R_mono (ok' := fun k => k ≠ gb ∧ wr.heap.size ≤ k ∧ k < w11.heap.size) (Kd.R_bound hown11) (fun k hk => ⟨by have := hk.2.1; have := GB8.out; omega, Nat.le_trans WR.out hk.2.1, hk.2.2.1⟩)
          have hown12 := Kd.R_grown hown11' HG12.out (fun k hk e => by have := (HV11.out.1 k e.symm).2; omega)
          have hn12 := Kd.C_kept_own (S := (fun k => (P0 k ∨ w.heap.size ≤ k) ∧ (k < wr.heap.size ∨ w11.heap.size ≤ k))) hown12 (fun k hk h => by have := h.2; omega)
          have hle12 : w11.heap.size ≤ w12.heap.size := HG12.out.size
          have hww : w.heap.size ≤ w11.heap.size := hk11.1
          have hlen : (l ++ dn ++ [p]).length + sub.length ≤ 1000000 := by
            have h1 := HLL.out; have h2 := congrArg List.length HRR.out; have h3 := congrArg List.length HPR.out
            simp only [List.length_append, List.length_cons, List.length_nil] at h1 h2 h3 ⊢
            omega
          have HK12 := Aside0.mk hk12
          have HLE := Aside0.mk hle12
          have HWW := Aside0.mk hww
          clear hk11 hk12 hown11 hown11' hown12 hgo1 hgo0 hle12 hww
          refine (IH.out g ins data X.f1 (some ⟨go, 0, none⟩) cap own v12 (l ++ dn ++ [p]) sub w0 w12 (fun k => (P0 k ∨ w.heap.size ≤ k) ∧ (k < wr.heap.size ∨ w11.heap.size ≤ k)) hi12 HB12.out hn12 HC9.out.2 HO12.out HP2.out hlen).mono ?_
          clear hi12 hn12 hlen
          rintro e w13 ⟨v13, rfl, hv13, hi13, hb13, hk13⟩
          have HV13 := Aside0.mk hv13
          have HI13 := Aside0.mk hi13
          have HB13 := Aside0.mk hb13
          have HK13 := Aside0.mk hk13
          have hel := HEL.out
          clear hv13 hi13 hb13 hk13 hgbc
          go_wp2_with fail
          go_roundw
          case rel =>
            refine ⟨j + 1, dn ++ p :: sub, rest2, rfl, by omega, by omega, HP3, ⟨?_⟩, ⟨?_⟩, HI13, HB13, ⟨HK12.out.then_ HK13.out (fun k hk => hk.1)⟩⟩
            · rw [HRR.out, ← HPR.out]; simp
            · have e : l ++ (dn ++ p :: sub) = l ++ dn ++ [p] ++ sub := by simp
              rw [e]
              exact Kd.R_mono HV13.out (fun k hk => hk.elim (fun h => h.1) (fun h => .inr (by have := HLE.out; have := HWW.out; omega)))
          case measure => simp [intOf]; omega
        · have hje : j = (E.length : Int) := by omega
          have hp := HP.out
          rw [hje, Int.toNat_natCast, List.drop_length] at hp
          injection hp with hp
          have hrr := HRR.out
          rw [← hp, List.append_nil] at hrr
          subst hrr
          clear hp hje HP
          go_wp2_with fail
          go_ret
          exact ⟨_, rfl, HV.out, HI2.out, HB2.out, HK2.out⟩
theorem impl_Fs_paths.calls (k : Nat) (g : Nat) (s0_0 : List S86) (s0_1 : List (List Int)) (r : List ByteArray) (w0 w : World) (hI : IsS28 w0 w g s0_0 s0_1) (hB : Below w0.heap.size w0 w) (h : impl_Fs_paths.f k s0_0 s0_1 = some r) :
    Calls Tryz.prog 133 #[.pointer (some ⟨g, 0, none⟩)] w fun e w' => ∃ v0_ : Value, e = .returned (v0_) ∧ Kd.R Kd.string 9 w' w.heap.size (fun _ => True) v0_ r ∧ IsS28 w0 w' g s0_0 s0_1 ∧ Below w0.heap.size w0 w' ∧ KeepBut w w' g none := by
  unfold impl_Fs_paths.f at h
  obtain ⟨l, hl, h⟩ := Option.bind_eq_some_iff.mp h
  by_cases hlen : l.length ≤ 1000000
  case neg => rw [if_neg hlen] at h; cases h
  rw [if_pos hlen] at h
  injection h with h
  have HI := Aside0.mk hI
  have HB := Aside0.mk hB
  have HL := Aside0.mk hl
  have HLEN := Aside0.mk hlen
  have HR := Aside0.mk h
  have HF := Aside0.mk (pathsBelow_walk k)
  clear hI hB hl hlen h
  go_enter Tryz.func133, Tryz.ntmps133
  go_wp2_with fail
  refine (HF.out g s0_0 s0_1 0 none 0 [] (.slice none 0 0) [] l w0 w (fun _ => False) HI.out HB.out (fun W' _ => Kd.C_nil _ W') (Nat.le_refl 0) (Kd.R_nil _ _ _ _ _) HL.out (by simpa using HLEN.out)).mono ?_
  rintro e w1 ⟨v1, rfl, hv1, hi1, hb1, hk1⟩
  have hv2 := str_raise (B := w.heap.size) hv1 (fun k hk => (hv1.1 k hk).elim False.elim id)
  rw [List.nil_append] at hv2
  have hv3 := Kd.R_mono (ok' := fun _ => True) hv2 (fun _ _ => trivial)
  obtain ⟨A1, c1, rfl, hc1, -⟩ := Kd.R_reads hv3
  have HV := Aside0.mk hv3
  have HI1 := Aside0.mk hi1
  have HB1 := Aside0.mk hb1
  have HK1 := Aside0.mk hk1
  have hlm := HLEN.out
  generalize hL : l.length = L at hc1 hlm
  have HLL := Aside0.mk hL
  have hfin : ∀ m : Nat, m = min L 60 → Kd.string.R 9 w1 w.heap.size (fun _ => True) (.slice A1 m c1) r := by
    intro m hm
    have h2 := Kd.R_take (m := m) HV.out (by rw [hL]; omega)
    rw [← HR.out]
    have e : l.take 60 = l.take m := by
      rw [hm]
      by_cases h60 : L ≤ 60
      · rw [Nat.min_eq_left h60, List.take_of_length_le (by omega), List.take_of_length_le (by omega)]
      · rw [Nat.min_eq_right (by omega)]
    rw [e]
    exact h2
  have HFIN := Aside0.mk hfin
  clear hv1 hv2 hv3 hi1 hb1 hk1 hL hfin
  by_cases h60 : L ≤ 60
  · have hlt : ¬ (60 : Int) < (L : Int) := by omega
    go_wp2_with fail
    go_ret
    exact ⟨_, rfl, HFIN.out L (by omega), HI1.out, HB1.out, HK1.out.1, fun i hi _ _ => HK1.out.2 i hi id⟩
  · have hlt : (60 : Int) < (L : Int) := by omega
    go_wp2_with fail
    go_ret
    exact ⟨_, rfl, HFIN.out 60 (by omega), HI1.out, HB1.out, HK1.out.1, fun i hi _ _ => HK1.out.2 i hi id⟩
end Go.Proofs.YtafhjhdohclchaaGreatDoor.G
