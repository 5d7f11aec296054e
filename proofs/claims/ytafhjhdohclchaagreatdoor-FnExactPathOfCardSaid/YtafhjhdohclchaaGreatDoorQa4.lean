/- Contracts of functions, words and pure lemmas that a statement reaches (part 4); conditions: each theorem's own hypotheses. -/
import Derived.Test.YtafhjhdohclchaaGreatDoorQa3
set_option linter.unusedVariables false
set_option linter.unusedSimpArgs false
namespace Go.Proofs.YtafhjhdohclchaaGreatDoor.G
open Go.RowKit Go.Proofs.YtafhjhdohclchaaGreatDoorW.PrintWords Go.Proofs.YtafhjhdohclchaaGreatDoorW.PrintLast Go.Proofs.YtafhjhdohclchaaGreatDoorW.PrintMore
attribute [local go_sem] min2_int min_two
attribute [local go_sem high] str_leq
attribute [local go_sem] binOp_string_geq
/-- An inode that is an element of a row: five cells from o on in block g of W; what its slices lead to came in by w0. -/
def InS86 (w0 W : World) (g o : Nat) (f0 : Int) (f1 : Int) (f2 : Int) (f3 : List Int) (f4 : List S143) : Prop := ∃ A3 c3, ∃ A4 c4, (W.cell? ⟨g, o, none⟩ = some (.int .i64 f0) ∧ W.cell? ⟨g, o + 1, none⟩ = some (.int .i64 f1) ∧ W.cell? ⟨g, o + 2, none⟩ = some (.int .i64 f2) ∧ W.cell? ⟨g, o + 3, none⟩ = some (.slice A3 f3.length c3) ∧ W.cell? ⟨g, o + 4, none⟩ = some (.slice A4 f4.length c4)) ∧ True ∧ (Kd.C (Kd.int .i64) w0 A3 f3.length f3 ∧ f3.length ≤ c3) ∧ (Kd.C k143 w0 A4 f4.length f4 ∧ f4.length ≤ c4)
section
variable {w0 W : World} {g o : Nat} {f0 f1 f2 : Int} {f3 : List Int} {f4 : List S143}
theorem InS86.below {W1 : World} (h : InS86 w0 W g o f0 f1 f2 f3 f4) (hb : Below W.heap.size W W1) : InS86 w0 W1 g o f0 f1 f2 f3 f4 := by
 obtain ⟨A3, c3, A4, c4, ⟨h0, h1, h2, h3, h4⟩, ht, r⟩ := h
 exact ⟨A3, c3, A4, c4, ⟨pw_cell_below hb h0, pw_cell_below hb h1, pw_cell_below hb h2, pw_cell_below hb h3, pw_cell_below hb h4⟩, ht, r⟩
theorem InS86.alloc (h : InS86 w0 W g o f0 f1 f2 f3 f4) (ob : Obj) : InS86 w0 (W.alloc ob) g o f0 f1 f2 f3 f4 := h.below (below_alloc (Below.refl _ _) ob)
theorem InS86.drewN (h : InS86 w0 W g o f0 f1 f2 f3 f4) (m : Nat) : InS86 w0 (W.drewN m) g o f0 f1 f2 f3 f4 := h
theorem InS86.drew (h : InS86 w0 W g o f0 f1 f2 f3 f4) : InS86 w0 W.drew g o f0 f1 f2 f3 f4 := h
theorem InS86.at_ {w' : World} {m : Nat} (hq : W.drewN m = w') (h : InS86 w0 W g o f0 f1 f2 f3 f4) : InS86 w0 w' g o f0 f1 f2 f3 f4 := by subst hq; exact h.drewN m
end
section
variable {W : World} {g o : Nat} {f0 f1 f2 : Int} {v3 v4 : Value}
theorem cellI86_0 (h : W.cell? ⟨g, o, none⟩ = some (.int .i64 f0) ∧ W.cell? ⟨g, o + 1, none⟩ = some (.int .i64 f1) ∧ W.cell? ⟨g, o + 2, none⟩ = some (.int .i64 f2) ∧ W.cell? ⟨g, o + 3, none⟩ = some v3 ∧ W.cell? ⟨g, o + 4, none⟩ = some v4) : W.cell? ⟨g, o, none⟩ = some (.int .i64 f0) := h.1
theorem cellI86_1 (h : W.cell? ⟨g, o, none⟩ = some (.int .i64 f0) ∧ W.cell? ⟨g, o + 1, none⟩ = some (.int .i64 f1) ∧ W.cell? ⟨g, o + 2, none⟩ = some (.int .i64 f2) ∧ W.cell? ⟨g, o + 3, none⟩ = some v3 ∧ W.cell? ⟨g, o + 4, none⟩ = some v4) : W.cell? ⟨g, o + 1, none⟩ = some (.int .i64 f1) := h.2.1
theorem cellI86_2 (h : W.cell? ⟨g, o, none⟩ = some (.int .i64 f0) ∧ W.cell? ⟨g, o + 1, none⟩ = some (.int .i64 f1) ∧ W.cell? ⟨g, o + 2, none⟩ = some (.int .i64 f2) ∧ W.cell? ⟨g, o + 3, none⟩ = some v3 ∧ W.cell? ⟨g, o + 4, none⟩ = some v4) : W.cell? ⟨g, o + 2, none⟩ = some (.int .i64 f2) := h.2.2.1
theorem cellI86_3 (h : W.cell? ⟨g, o, none⟩ = some (.int .i64 f0) ∧ W.cell? ⟨g, o + 1, none⟩ = some (.int .i64 f1) ∧ W.cell? ⟨g, o + 2, none⟩ = some (.int .i64 f2) ∧ W.cell? ⟨g, o + 3, none⟩ = some v3 ∧ W.cell? ⟨g, o + 4, none⟩ = some v4) : W.cell? ⟨g, o + 3, none⟩ = some v3 := h.2.2.2.1
theorem cellI86_4 (h : W.cell? ⟨g, o, none⟩ = some (.int .i64 f0) ∧ W.cell? ⟨g, o + 1, none⟩ = some (.int .i64 f1) ∧ W.cell? ⟨g, o + 2, none⟩ = some (.int .i64 f2) ∧ W.cell? ⟨g, o + 3, none⟩ = some v3 ∧ W.cell? ⟨g, o + 4, none⟩ = some v4) : W.cell? ⟨g, o + 4, none⟩ = some v4 := h.2.2.2.2
end
set_option maxHeartbeats 8000000 in
set_option maxRecDepth 100000 in
theorem q1w.callsI (k : Nat) (g : Nat) {o : Nat} (s0_0 : Int) (s0_1 : Int) (s0_2 : Int) (s0_3 : List Int) (s0_4 : List (S143)) (r1 : Int) (r2 : Int) (r3 : Int) (r4 : Int) (w0 w : World) (hI : InS86 w0 w g o s0_0 s0_1 s0_2 s0_3 s0_4) (hB : Below w0.heap.size w0 w) (h : q1w.f k s0_0 s0_1 s0_2 s0_3 s0_4 = some (r1, r2, r3, r4)) :
  Calls Tryz.prog 281 #[.pointer (some ⟨g, o, none⟩)] w fun e w' => e = .returned (.int .i64 r1) ∧ InS86 w0 w' g o r2 r3 r4 s0_3 s0_4 ∧ Below w0.heap.size w0 w' ∧ KeepBut w w' g none := by
 have HI0 := Am hI
 have HK := Am (KeepBut.refl w g none)
 have HL := Am hB.size
 clear hI
 have HW0 := Am hB.size
 have HB := Am hB
 clear hB
 have H : ((q1r.f s0_1 1 60).bind fun t631 => (if t631 = true then ((q1y.f s0_2).bind fun t632 => (q1w.j0 k (!t632) s0_0 s0_1 s0_2 s0_3 s0_4)) else (q1w.j0 k true s0_0 s0_1 s0_2 s0_3 s0_4))) = some (r1, r2, r3, r4) := h
 clear h
 have HC2 := Am H
 clear H
 go_enter Tryz.func281, Tryz.ntmps281
 go_upto_region 1 with (fail)
 repeat (go_quiet (fail); go_upto_region 1 with (fail))
 go_cut [19] (fun v19 wc => ∃ (kq : Nat) (x19_1 : Bool), v19 = .bool x19_1 ∧ Aside0 (q1w.j0 kq x19_1 s0_0 s0_1 s0_2 s0_3 s0_4 = some (r1, r2, r3, r4)) ∧ Aside0 (kq ≤ k) ∧ Aside0 (InS86 w0 wc g o s0_0 s0_1 s0_2 s0_3 s0_4) ∧ Aside0 (KeepBut w wc g none) ∧ Aside0 (Below w0.heap.size w0 wc))
 case first =>
  have H := HC2.out
  clear HC2
  replace H := zbs H
  obtain ⟨t631, A3, H⟩ := H
  by_cases c4 : t631 = true
  ·subst c4
   have H1 : ((q1y.f s0_2).bind fun t632 => (q1w.j0 k (!t632) s0_0 s0_1 s0_2 s0_3 s0_4)) = some (r1, r2, r3, r4) := by rw [if_pos rfl] at H; exact H
   clear H
   have H := H1
   clear H1
   replace H := zbs H
   obtain ⟨t632, A5, H⟩ := H
   have H' := Am H
   clear H
   obtain ⟨ASz6_3, cSz6_3, ASz6_4, cSz6_4, HGz6, hgz6, HSz6_3, HSz6_4⟩ := HI0.out
   have hcz6_0 := cellI86_0 HGz6
   have hcz6_1 := cellI86_1 HGz6
   have hcz6_2 := cellI86_2 HGz6
   have hcz6_3 := cellI86_3 HGz6
   have hcz6_4 := cellI86_4 HGz6
   clear HGz6 hgz6
   go_wp2_with (first | (go_at_call 67; (with_reducible refine (q1r.calls s0_1 1 60 true _ A3.out).mono ?_); rintro e w' ⟨rfl, ⟨nd, rfl⟩⟩) | (go_at_call 301; (with_reducible refine (q1y.calls s0_2 t632 _ A5.out).mono ?_); rintro e w' ⟨rfl, ⟨nd, rfl⟩⟩))
   repeat (go_quiet (first | (go_at_call 67; (with_reducible refine (q1r.calls s0_1 1 60 true _ A3.out).mono ?_); rintro e w' ⟨rfl, ⟨nd, rfl⟩⟩; (try first | exact ⟨rfl, _, World.drewN_drewN _ _ _⟩ | exact ⟨rfl, _, Eq.trans (World.drewN_drewN _ _ _) (congrArg (World.drewN _) (Nat.add_assoc _ _ _))⟩)) | (go_at_call 301; (with_reducible refine (q1y.calls s0_2 t632 _ A5.out).mono ?_); rintro e w' ⟨rfl, ⟨nd, rfl⟩⟩; (try first | exact ⟨rfl, _, World.drewN_drewN _ _ _⟩ | exact ⟨rfl, _, Eq.trans (World.drewN_drewN _ _ _) (congrArg (World.drewN _) (Nat.add_assoc _ _ _))⟩))))
   go_meet
   case rel => exact ⟨_, (!t632), (by rfl), H', ⟨by omega⟩, ⟨by repeat ((with_reducible first | exact HI0.out | apply InS86.drewN))⟩, ⟨by repeat ((with_reducible first | exact HK.out | apply keep_drewN))⟩, ⟨by repeat ((with_reducible first | exact HB.out | apply pw_below_drewN))⟩⟩
  ·replace c4 := Bool.eq_false_iff.mpr c4
   subst c4
   have H1 : (q1w.j0 k true s0_0 s0_1 s0_2 s0_3 s0_4) = some (r1, r2, r3, r4) := by rw [if_neg (show ¬ (false = true) by decide)] at H; exact H
   clear H
   have H := H1
   clear H1
   have H' := Am H
   clear H
   obtain ⟨ASz7_3, cSz7_3, ASz7_4, cSz7_4, HGz7, hgz7, HSz7_3, HSz7_4⟩ := HI0.out
   have hcz7_0 := cellI86_0 HGz7
   have hcz7_1 := cellI86_1 HGz7
   have hcz7_2 := cellI86_2 HGz7
   have hcz7_3 := cellI86_3 HGz7
   have hcz7_4 := cellI86_4 HGz7
   clear HGz7 hgz7
   go_wp2_with ((go_at_call 67; (with_reducible refine (q1r.calls s0_1 1 60 false _ A3.out).mono ?_); rintro e w' ⟨rfl, ⟨nd, rfl⟩⟩))
   repeat (go_quiet (first | (go_at_call 67; (with_reducible refine (q1r.calls s0_1 1 60 false _ A3.out).mono ?_); rintro e w' ⟨rfl, ⟨nd, rfl⟩⟩; (try first | exact ⟨rfl, _, World.drewN_drewN _ _ _⟩ | exact ⟨rfl, _, Eq.trans (World.drewN_drewN _ _ _) (congrArg (World.drewN _) (Nat.add_assoc _ _ _))⟩))))
   go_meet
   case rel => exact ⟨_, (true), (by rfl), H', ⟨by omega⟩, ⟨by repeat ((with_reducible first | exact HI0.out | apply InS86.drewN))⟩, ⟨by repeat ((with_reducible first | exact HK.out | apply keep_drewN))⟩, ⟨by repeat ((with_reducible first | exact HB.out | apply pw_below_drewN))⟩⟩
 case rest =>
  clear HC2
  obtain ⟨kq, x19_1, rfl, HA, HJ1, HI0, HK, HB⟩ := hcut
  cases kq with
  | zero => exact absurd HA.out (by simp [q1w.j0])
  | succ kj1 =>
   have H := HA.out
   clear HA
   simp only [q1w.j0] at H
   by_cases c8 : x19_1 = true
   ·subst c8
    have H1 : (some (3, s0_0, s0_1, s0_2)) = some (r1, r2, r3, r4) := by rw [if_pos rfl] at H; exact H
    clear H
    have H := H1
    clear H1
    simp only [Option.some.injEq, Prod.mk.injEq] at H
    obtain ⟨rfl, rfl, rfl, rfl⟩ := H
    go_wp2
    repeat (go_quiet (fail))
    go_ret
    exact ⟨by rfl, HI0.out, HB.out, HK.out⟩
   ·replace c8 := Bool.eq_false_iff.mpr c8
    subst c8
    have H1 : ((q1x.f s0_2).bind fun t633 => (if (s0_3.length : Int) = t633 then (q1w.l0 kj1 0 s0_0 s0_1 s0_2 s0_3 s0_4) else (some (1, s0_0, s0_1, s0_2)))) = some (r1, r2, r3, r4) := by rw [if_neg (show ¬ (false = true) by decide)] at H; exact H
    clear H
    have H := H1
    clear H1
    replace H := zbs H
    obtain ⟨t633, A9, H⟩ := H
    by_cases c10 : (s0_3.length : Int) = t633
    ·rw [if_pos c10] at H
     have c10b0 : ((s0_3.length : Int) == t633) = true := beq_iff_eq.mpr c10
     have c10b1 : ((s0_3.length : Int) != t633) = false := bne_eq_false_iff_eq.mpr c10
     clear c10
     have H' := Am H
     clear H
     obtain ⟨ASz11_3, cSz11_3, ASz11_4, cSz11_4, HGz11, hgz11, HSz11_3, HSz11_4⟩ := HI0.out
     have hcz11_0 := cellI86_0 HGz11
     have hcz11_1 := cellI86_1 HGz11
     have hcz11_2 := cellI86_2 HGz11
     have hcz11_3 := cellI86_3 HGz11
     have hcz11_4 := cellI86_4 HGz11
     clear HGz11 hgz11
     go_wp2_with (fail)
     repeat (go_quiet (first | (go_at_call 302; (with_reducible refine (q1x.calls s0_2 t633 _ A9.out).mono ?_); rintro e w' ⟨rfl, ⟨nd, rfl⟩⟩; (try first | exact ⟨rfl, _, World.drewN_drewN _ _ _⟩ | exact ⟨rfl, _, Eq.trans (World.drewN_drewN _ _ _) (congrArg (World.drewN _) (Nat.add_assoc _ _ _))⟩))); try go_wp2_with (fail))
     go_loopg [3] kj1 (fun kq v3 w' => ∃ (x3_2 : Int), v3 = .int .i64 x3_2 ∧ Aside0 (q1w.l0 kq x3_2 s0_0 s0_1 s0_2 s0_3 s0_4 = some (r1, r2, r3, r4)) ∧ Aside0 (kq ≤ kj1) ∧ Aside0 (InS86 w0 w' g o s0_0 s0_1 s0_2 s0_3 s0_4) ∧ Aside0 (KeepBut w w' g none) ∧ Aside0 (Below w0.heap.size w0 w'))
     case atStart => exact ⟨(0), (by rfl), H', ⟨Nat.le_refl _⟩, ⟨by repeat ((with_reducible first | exact HI0.out | apply InS86.drewN))⟩, ⟨by repeat ((with_reducible first | exact HK.out | apply keep_drewN))⟩, ⟨by repeat ((with_reducible first | exact HB.out | apply pw_below_drewN))⟩⟩
     case round =>
      clear H'
      try clear c10b0
      try clear c10b1
      try clear hcz11_0
      try clear hcz11_1
      try clear hcz11_2
      try clear hcz11_3
      try clear hcz11_4
      obtain ⟨x3_2, rfl, HA, HK2, HI0, HK, HB⟩ := hrel
      cases gk with
      | zero => exact absurd HA.out (by simp [q1w.l0])
      | succ k2 =>
       have H := HA.out
       clear HA
       simp only [q1w.l0] at H
       by_cases c12 : x3_2 < (s0_3.length : Int)
       ·rw [if_pos c12] at H
        have c12b0 : decide (x3_2 < (s0_3.length : Int)) = true := decide_eq_true c12
        clear c12
        replace H := ino H
        obtain ⟨c13, H⟩ := H
        have c13b0 : decide (0 ≤ x3_2) = true := decide_eq_true c13
        clear c13
        replace H := zbs H
        obtain ⟨t635, A14, H⟩ := H
        by_cases c15 : t635 = true
        ·subst c15
         have H1 : (q1w.l0 k2 (wrap64 (x3_2 + 1)) s0_0 s0_1 s0_2 s0_3 s0_4) = some (r1, r2, r3, r4) := by rw [if_pos rfl] at H; exact H
         clear H
         have H := H1
         clear H1
         have H' := Am H
         clear H
         obtain ⟨ASz16_3, cSz16_3, ASz16_4, cSz16_4, HGz16, hgz16, HSz16_3, HSz16_4⟩ := HI0.out
         have hcz16_0 := cellI86_0 HGz16
         have hcz16_1 := cellI86_1 HGz16
         have hcz16_2 := cellI86_2 HGz16
         have hcz16_3 := cellI86_3 HGz16
         have hcz16_4 := cellI86_4 HGz16
         clear HGz16 hgz16
         have p634 : 0 ≤ (x3_2 : Int) := od (by assumption)
         have q634 : x3_2 < (s0_3.length : Int) := od (by assumption)
         obtain ⟨ad634, e634, hx634_0⟩ := Kd.at_int HSz16_3.1 x3_2 p634 q634
         cases e634
         replace hx634_0 := pcb HB.out hx634_0
         replace p634 := eq_true p634
         replace q634 := eq_true q634
         go_wp2_with ((go_at_call 67; (with_reducible refine (q1r.calls (rd s0_3 x3_2) 0 19 true _ A14.out).mono ?_); rintro e w' ⟨rfl, ⟨nd, rfl⟩⟩))
         repeat (go_quiet (first | (go_at_call 67; (with_reducible refine (q1r.calls (rd s0_3 x3_2) 0 19 true _ A14.out).mono ?_); rintro e w' ⟨rfl, ⟨nd, rfl⟩⟩; (try first | exact ⟨rfl, _, World.drewN_drewN _ _ _⟩ | exact ⟨rfl, _, Eq.trans (World.drewN_drewN _ _ _) (congrArg (World.drewN _) (Nat.add_assoc _ _ _))⟩))))
         go_roundg k2
         case measure => have := HJ1.out; have := HK2.out; omega
         case rel => exact ⟨(wrap64 (x3_2 + 1)), (by rfl), H', ⟨by have := HJ1.out; have := HK2.out; omega⟩, ⟨by repeat ((with_reducible first | exact HI0.out | apply InS86.drewN))⟩, ⟨by repeat ((with_reducible first | exact HK.out | apply keep_drewN))⟩, ⟨by repeat ((with_reducible first | exact HB.out | apply pw_below_drewN))⟩⟩
        ·replace c15 := Bool.eq_false_iff.mpr c15
         subst c15
         have H1 : (some (3, s0_0, s0_1, s0_2)) = some (r1, r2, r3, r4) := by rw [if_neg (show ¬ (false = true) by decide)] at H; exact H
         clear H
         have H := H1
         clear H1
         simp only [Option.some.injEq, Prod.mk.injEq] at H
         obtain ⟨rfl, rfl, rfl, rfl⟩ := H
         obtain ⟨ASz17_3, cSz17_3, ASz17_4, cSz17_4, HGz17, hgz17, HSz17_3, HSz17_4⟩ := HI0.out
         have hcz17_0 := cellI86_0 HGz17
         have hcz17_1 := cellI86_1 HGz17
         have hcz17_2 := cellI86_2 HGz17
         have hcz17_3 := cellI86_3 HGz17
         have hcz17_4 := cellI86_4 HGz17
         clear HGz17 hgz17
         have p634 : 0 ≤ (x3_2 : Int) := od (by assumption)
         have q634 : x3_2 < (s0_3.length : Int) := od (by assumption)
         obtain ⟨ad634, e634, hx634_0⟩ := Kd.at_int HSz17_3.1 x3_2 p634 q634
         cases e634
         replace hx634_0 := pcb HB.out hx634_0
         replace p634 := eq_true p634
         replace q634 := eq_true q634
         go_wp2_with ((go_at_call 67; (with_reducible refine (q1r.calls (rd s0_3 x3_2) 0 19 false _ A14.out).mono ?_); rintro e w' ⟨rfl, ⟨nd, rfl⟩⟩))
         repeat (go_quiet (first | (go_at_call 67; (with_reducible refine (q1r.calls (rd s0_3 x3_2) 0 19 false _ A14.out).mono ?_); rintro e w' ⟨rfl, ⟨nd, rfl⟩⟩; (try first | exact ⟨rfl, _, World.drewN_drewN _ _ _⟩ | exact ⟨rfl, _, Eq.trans (World.drewN_drewN _ _ _) (congrArg (World.drewN _) (Nat.add_assoc _ _ _))⟩))))
         go_ret
         exact ⟨by rfl, by repeat ((with_reducible first | exact HI0.out | apply InS86.drewN)), by repeat ((with_reducible first | exact HB.out | apply pw_below_drewN)), by repeat ((with_reducible first | exact HK.out | apply keep_drewN))⟩
       ·rw [if_neg c12] at H
        have c12b0 : decide (x3_2 < (s0_3.length : Int)) = false := decide_eq_false c12
        clear c12
        have H' := Am H
        clear H
        obtain ⟨ASz18_3, cSz18_3, ASz18_4, cSz18_4, HGz18, hgz18, HSz18_3, HSz18_4⟩ := HI0.out
        have hcz18_0 := cellI86_0 HGz18
        have hcz18_1 := cellI86_1 HGz18
        have hcz18_2 := cellI86_2 HGz18
        have hcz18_3 := cellI86_3 HGz18
        have hcz18_4 := cellI86_4 HGz18
        clear HGz18 hgz18
        go_wp2
        repeat (go_quiet (fail))
        go_loopg [4] k2 (fun kq v4 w' => ∃ (x4_3 : Int), v4 = .int .i64 x4_3 ∧ Aside0 (q1w.l1 kq x4_3 s0_0 s0_1 s0_2 s0_3 s0_4 = some (r1, r2, r3, r4)) ∧ Aside0 (kq ≤ k2) ∧ Aside0 (InS86 w0 w' g o s0_0 s0_1 s0_2 s0_3 s0_4) ∧ Aside0 (KeepBut w w' g none) ∧ Aside0 (Below w0.heap.size w0 w'))
        case atStart => exact ⟨(0), (by rfl), H', ⟨Nat.le_refl _⟩, ⟨HI0.out⟩, ⟨HK.out⟩, ⟨HB.out⟩⟩
        case round =>
         clear H'
         try clear c12b0
         try clear hcz18_0
         try clear hcz18_1
         try clear hcz18_2
         try clear hcz18_3
         try clear hcz18_4
         obtain ⟨x4_3, rfl, HA, HK3, HI0, HK, HB⟩ := hrel
         cases gk with
         | zero => exact absurd HA.out (by simp [q1w.l1])
         | succ k3 =>
          have H := HA.out
          clear HA
          simp only [q1w.l1] at H
          by_cases c19 : x4_3 < (s0_3.length : Int)
          ·rw [if_pos c19] at H
           have c19b0 : decide (x4_3 < (s0_3.length : Int)) = true := decide_eq_true c19
           clear c19
           have H' := Am H
           clear H
           obtain ⟨ASz20_3, cSz20_3, ASz20_4, cSz20_4, HGz20, hgz20, HSz20_3, HSz20_4⟩ := HI0.out
           have hcz20_0 := cellI86_0 HGz20
           have hcz20_1 := cellI86_1 HGz20
           have hcz20_2 := cellI86_2 HGz20
           have hcz20_3 := cellI86_3 HGz20
           have hcz20_4 := cellI86_4 HGz20
           clear HGz20 hgz20
           go_wp2
           repeat (go_quiet (fail))
           go_loopg [5] k3 (fun kq v5 w' => ∃ (x5_4 : Int), v5 = .int .i64 x5_4 ∧ Aside0 (q1w.l2 kq x4_3 x5_4 s0_0 s0_1 s0_2 s0_3 s0_4 = some (r1, r2, r3, r4)) ∧ Aside0 (kq ≤ k3) ∧ Aside0 (InS86 w0 w' g o s0_0 s0_1 s0_2 s0_3 s0_4) ∧ Aside0 (KeepBut w w' g none) ∧ Aside0 (Below w0.heap.size w0 w'))
           case atStart => exact ⟨(0), (by rfl), H', ⟨Nat.le_refl _⟩, ⟨HI0.out⟩, ⟨HK.out⟩, ⟨HB.out⟩⟩
           case round =>
            clear H'
            try clear c19b0
            try clear hcz20_0
            try clear hcz20_1
            try clear hcz20_2
            try clear hcz20_3
            try clear hcz20_4
            obtain ⟨x5_4, rfl, HA, HK4, HI0, HK, HB⟩ := hrel
            cases gk with
            | zero => exact absurd HA.out (by simp [q1w.l2])
            | succ k4 =>
             have H := HA.out
             clear HA
             simp only [q1w.l2] at H
             by_cases c21 : x5_4 < x4_3
             ·rw [if_pos c21] at H
              have c21b0 : decide (x5_4 < x4_3) = true := decide_eq_true c21
              clear c21
              replace H := ino H
              obtain ⟨c22, H⟩ := H
              have c22b0 : decide (0 ≤ x5_4) = true := decide_eq_true c22
              clear c22
              replace H := ino H
              obtain ⟨c23, H⟩ := H
              have c23b0 : decide (x5_4 < (s0_3.length : Int)) = true := decide_eq_true c23
              clear c23
              replace H := ino H
              obtain ⟨c24, H⟩ := H
              have c24b0 : decide (0 ≤ x4_3) = true := decide_eq_true c24
              clear c24
              replace H := ino H
              obtain ⟨c25, H⟩ := H
              have c25b0 : decide (x4_3 < (s0_3.length : Int)) = true := decide_eq_true c25
              clear c25
              by_cases c26 : (rd s0_3 x5_4) = (rd s0_3 x4_3)
              ·rw [if_pos c26] at H
               have c26b0 : ((rd s0_3 x5_4) == (rd s0_3 x4_3)) = true := beq_iff_eq.mpr c26
               have c26b1 : ((rd s0_3 x5_4) != (rd s0_3 x4_3)) = false := bne_eq_false_iff_eq.mpr c26
               clear c26
               simp only [Option.some.injEq, Prod.mk.injEq] at H
               obtain ⟨rfl, rfl, rfl, rfl⟩ := H
               obtain ⟨ASz27_3, cSz27_3, ASz27_4, cSz27_4, HGz27, hgz27, HSz27_3, HSz27_4⟩ := HI0.out
               have hcz27_0 := cellI86_0 HGz27
               have hcz27_1 := cellI86_1 HGz27
               have hcz27_2 := cellI86_2 HGz27
               have hcz27_3 := cellI86_3 HGz27
               have hcz27_4 := cellI86_4 HGz27
               clear HGz27 hgz27
               have p636 : 0 ≤ (x5_4 : Int) := od (by assumption)
               have q636 : x5_4 < (s0_3.length : Int) := od (by assumption)
               obtain ⟨ad636, e636, hx636_0⟩ := Kd.at_int HSz27_3.1 x5_4 p636 q636
               cases e636
               replace hx636_0 := pcb HB.out hx636_0
               replace p636 := eq_true p636
               replace q636 := eq_true q636
               have p637 : 0 ≤ (x4_3 : Int) := od (by assumption)
               have q637 : x4_3 < (s0_3.length : Int) := od (by assumption)
               obtain ⟨ad637, e637, hx637_0⟩ := Kd.at_int HSz27_3.1 x4_3 p637 q637
               obtain rfl : ad636 = ad637 := (by injection e637)
               replace hx637_0 := pcb HB.out hx637_0
               replace p637 := eq_true p637
               replace q637 := eq_true q637
               go_wp2
               repeat (go_quiet (fail); try go_wp2)
               go_ret
               exact ⟨by rfl, by repeat ((with_reducible first | exact HI0.out | apply InS86.drewN)), by repeat ((with_reducible first | exact HB.out | apply pw_below_drewN)), by repeat ((with_reducible first | exact HK.out | apply keep_drewN))⟩
              ·rw [if_neg c26] at H
               have c26b0 : ((rd s0_3 x5_4) == (rd s0_3 x4_3)) = false := beq_eq_false_iff_ne.mpr c26
               have c26b1 : ((rd s0_3 x5_4) != (rd s0_3 x4_3)) = true := bne_iff_ne.mpr c26
               have H' := Am H
               clear H
               obtain ⟨ASz28_3, cSz28_3, ASz28_4, cSz28_4, HGz28, hgz28, HSz28_3, HSz28_4⟩ := HI0.out
               have hcz28_0 := cellI86_0 HGz28
               have hcz28_1 := cellI86_1 HGz28
               have hcz28_2 := cellI86_2 HGz28
               have hcz28_3 := cellI86_3 HGz28
               have hcz28_4 := cellI86_4 HGz28
               clear HGz28 hgz28
               have p636 : 0 ≤ (x5_4 : Int) := od (by assumption)
               have q636 : x5_4 < (s0_3.length : Int) := od (by assumption)
               obtain ⟨ad636, e636, hx636_0⟩ := Kd.at_int HSz28_3.1 x5_4 p636 q636
               cases e636
               replace hx636_0 := pcb HB.out hx636_0
               replace p636 := eq_true p636
               replace q636 := eq_true q636
               have p637 : 0 ≤ (x4_3 : Int) := od (by assumption)
               have q637 : x4_3 < (s0_3.length : Int) := od (by assumption)
               obtain ⟨ad637, e637, hx637_0⟩ := Kd.at_int HSz28_3.1 x4_3 p637 q637
               obtain rfl : ad636 = ad637 := (by injection e637)
               replace hx637_0 := pcb HB.out hx637_0
               replace p637 := eq_true p637
               replace q637 := eq_true q637
               go_wp2
               repeat (go_quiet (fail); try go_wp2)
               go_roundg k4
               case measure => have := HJ1.out; have := HK2.out; have := HK3.out; have := HK4.out; omega
               case rel => exact ⟨(wrap64 (x5_4 + 1)), (by rfl), H', ⟨by have := HJ1.out; have := HK2.out; have := HK3.out; have := HK4.out; omega⟩, ⟨by repeat ((with_reducible first | exact HI0.out | apply InS86.drewN))⟩, ⟨by repeat ((with_reducible first | exact HK.out | apply keep_drewN))⟩, ⟨by repeat ((with_reducible first | exact HB.out | apply pw_below_drewN))⟩⟩
             ·rw [if_neg c21] at H
              have c21b0 : decide (x5_4 < x4_3) = false := decide_eq_false c21
              clear c21
              have H' := Am H
              clear H
              go_wp2
              repeat (go_quiet (fail))
              go_roundg k4
              case measure => have := HJ1.out; have := HK2.out; have := HK3.out; have := HK4.out; omega
              case rel => exact ⟨(wrap64 (x4_3 + 1)), (by rfl), H', ⟨by have := HJ1.out; have := HK2.out; have := HK3.out; have := HK4.out; omega⟩, ⟨HI0.out⟩, ⟨HK.out⟩, ⟨HB.out⟩⟩
          ·rw [if_neg c19] at H
           have c19b0 : decide (x4_3 < (s0_3.length : Int)) = false := decide_eq_false c19
           clear c19
           simp only [Option.some.injEq, Prod.mk.injEq] at H
           obtain ⟨rfl, rfl, rfl, rfl⟩ := H
           obtain ⟨ASz29_3, cSz29_3, ASz29_4, cSz29_4, HGz29, hgz29, HSz29_3, HSz29_4⟩ := HI0.out
           have hcz29_0 := cellI86_0 HGz29
           have hcz29_1 := cellI86_1 HGz29
           have hcz29_2 := cellI86_2 HGz29
           have hcz29_3 := cellI86_3 HGz29
           have hcz29_4 := cellI86_4 HGz29
           clear HGz29 hgz29
           go_wp2
           repeat (go_quiet (fail))
           go_ret
           exact ⟨by rfl, HI0.out, HB.out, HK.out⟩
    ·rw [if_neg c10] at H
     have c10b0 : ((s0_3.length : Int) == t633) = false := beq_eq_false_iff_ne.mpr c10
     have c10b1 : ((s0_3.length : Int) != t633) = true := bne_iff_ne.mpr c10
     simp only [Option.some.injEq, Prod.mk.injEq] at H
     obtain ⟨rfl, rfl, rfl, rfl⟩ := H
     obtain ⟨ASz30_3, cSz30_3, ASz30_4, cSz30_4, HGz30, hgz30, HSz30_3, HSz30_4⟩ := HI0.out
     have hcz30_0 := cellI86_0 HGz30
     have hcz30_1 := cellI86_1 HGz30
     have hcz30_2 := cellI86_2 HGz30
     have hcz30_3 := cellI86_3 HGz30
     have hcz30_4 := cellI86_4 HGz30
     clear HGz30 hgz30
     go_wp2_with (fail)
     repeat (go_quiet (first | (go_at_call 302; (with_reducible refine (q1x.calls s0_2 t633 _ A9.out).mono ?_); rintro e w' ⟨rfl, ⟨nd, rfl⟩⟩; (try first | exact ⟨rfl, _, World.drewN_drewN _ _ _⟩ | exact ⟨rfl, _, Eq.trans (World.drewN_drewN _ _ _) (congrArg (World.drewN _) (Nat.add_assoc _ _ _))⟩))); try go_wp2_with (fail))
     go_ret
     exact ⟨by rfl, by repeat ((with_reducible first | exact HI0.out | apply InS86.drewN)), by repeat ((with_reducible first | exact HB.out | apply pw_below_drewN)), by repeat ((with_reducible first | exact HK.out | apply keep_drewN))⟩
set_option maxHeartbeats 8000000 in
set_option maxRecDepth 100000 in
theorem q1u.callsI (k : Nat) (g : Nat) {o : Nat} (s0_0 : Int) (s0_1 : Int) (s0_2 : Int) (s0_3 : List Int) (s0_4 : List (S143)) (r1 : Int) (r2 : Int) (r3 : Int) (r4 : Int) (w0 w : World) (hI : InS86 w0 w g o s0_0 s0_1 s0_2 s0_3 s0_4) (hB : Below w0.heap.size w0 w) (h : q1u.f k s0_0 s0_1 s0_2 s0_3 s0_4 = some (r1, r2, r3, r4)) :
  Calls Tryz.prog 282 #[.pointer (some ⟨g, o, none⟩)] w fun e w' => e = .returned (.int .i64 r1) ∧ InS86 w0 w' g o r2 r3 r4 s0_3 s0_4 ∧ Below w0.heap.size w0 w' ∧ KeepBut w w' g none := by
 have HI0 := Am hI
 have HK := Am (KeepBut.refl w g none)
 have HL := Am hB.size
 clear hI
 have HW0 := Am hB.size
 have HB := Am hB
 clear hB
 have H : (if (s0_4.length : Int) > 6 then (some (2, s0_0, s0_1, s0_2)) else (q1u.l0 k 0 s0_0 s0_1 s0_2 s0_3 s0_4)) = some (r1, r2, r3, r4) := h
 clear h
 by_cases c2 : (s0_4.length : Int) > 6
 ·rw [if_pos c2] at H
  have c2b0 : decide (6 < (s0_4.length : Int)) = true := decide_eq_true c2
  have c2b1 : decide (6 < s0_4.length) = true := decide_eq_true (by omega)
  clear c2
  simp only [Option.some.injEq, Prod.mk.injEq] at H
  obtain ⟨rfl, rfl, rfl, rfl⟩ := H
  obtain ⟨ASz3_3, cSz3_3, ASz3_4, cSz3_4, HGz3, hgz3, HSz3_3, HSz3_4⟩ := HI0.out
  have hcz3_0 := cellI86_0 HGz3
  have hcz3_1 := cellI86_1 HGz3
  have hcz3_2 := cellI86_2 HGz3
  have hcz3_3 := cellI86_3 HGz3
  have hcz3_4 := cellI86_4 HGz3
  clear HGz3 hgz3
  go_enter Tryz.func282, Tryz.ntmps282
  go_wp2
  repeat (go_quiet (fail))
  go_ret
  exact ⟨by rfl, HI0.out, HB.out, HK.out⟩
 ·rw [if_neg c2] at H
  have c2b0 : decide (6 < (s0_4.length : Int)) = false := decide_eq_false c2
  have c2b1 : decide (6 < s0_4.length) = false := decide_eq_false (by omega)
  clear c2
  have H' := Am H
  clear H
  obtain ⟨ASz4_3, cSz4_3, ASz4_4, cSz4_4, HGz4, hgz4, HSz4_3, HSz4_4⟩ := HI0.out
  have hcz4_0 := cellI86_0 HGz4
  have hcz4_1 := cellI86_1 HGz4
  have hcz4_2 := cellI86_2 HGz4
  have hcz4_3 := cellI86_3 HGz4
  have hcz4_4 := cellI86_4 HGz4
  clear HGz4 hgz4
  go_enter Tryz.func282, Tryz.ntmps282
  go_wp2
  repeat (go_quiet (fail))
  go_loopg [3] k (fun kq v3 w' => ∃ (x3_1 : Int), v3 = .int .i64 x3_1 ∧ Aside0 (q1u.l0 kq x3_1 s0_0 s0_1 s0_2 s0_3 s0_4 = some (r1, r2, r3, r4)) ∧ Aside0 (kq ≤ k) ∧ Aside0 (InS86 w0 w' g o s0_0 s0_1 s0_2 s0_3 s0_4) ∧ Aside0 (KeepBut w w' g none) ∧ Aside0 (Below w0.heap.size w0 w'))
  case atStart => exact ⟨(0), (by rfl), H', ⟨Nat.le_refl _⟩, ⟨HI0.out⟩, ⟨HK.out⟩, ⟨HB.out⟩⟩
  case round =>
   clear H'
   try clear c2b0
   try clear c2b1
   try clear hcz4_0
   try clear hcz4_1
   try clear hcz4_2
   try clear hcz4_3
   try clear hcz4_4
   obtain ⟨x3_1, rfl, HA, HK1, HI0, HK, HB⟩ := hrel
   cases gk with
   | zero => exact absurd HA.out (by simp [q1u.l0])
   | succ k1 =>
    have H := HA.out
    clear HA
    simp only [q1u.l0] at H
    by_cases c5 : x3_1 < (s0_4.length : Int)
    ·rw [if_pos c5] at H
     have c5b0 : decide (x3_1 < (s0_4.length : Int)) = true := decide_eq_true c5
     clear c5
     replace H := ino H
     obtain ⟨c6, H⟩ := H
     have c6b0 : decide (0 ≤ x3_1) = true := decide_eq_true c6
     clear c6
     replace H := zbs H
     obtain ⟨t639, A7, H⟩ := H
     by_cases c8 : t639 = 0
     ·rw [if_pos c8] at H
      have c8b0 : (t639 == 0) = true := beq_iff_eq.mpr c8
      have c8b1 : (t639 != 0) = false := bne_eq_false_iff_eq.mpr c8
      clear c8
      replace H := zbs H
      obtain ⟨t641, A9, H⟩ := H
      by_cases c10 : t641 = true
      ·subst c10
       have H1 : (if x3_1 > 0 then (if 0 ≤ (wrap64 (x3_1 - 1)) then (if (wrap64 (x3_1 - 1)) < (s0_4.length : Int) then (if ((Op.bytesLess (((rd_T143 s0_4 (wrap64 (x3_1 - 1))).f0).toList) (((rd_T143 s0_4 x3_1).f0).toList)) = true) then (q1u.l0 k1 (wrap64 (x3_1 + 1)) s0_0 s0_1 s0_2 s0_3 s0_4) else (some (1, s0_0, s0_1, s0_2))) else (none)) else (none)) else (q1u.l0 k1 (wrap64 (x3_1 + 1)) s0_0 s0_1 s0_2 s0_3 s0_4)) = some (r1, r2, r3, r4) := by rw [if_pos rfl] at H; exact H
       clear H
       have H := H1
       clear H1
       by_cases c11 : x3_1 > 0
       ·rw [if_pos c11] at H
        have c11b0 : decide (0 < x3_1) = true := decide_eq_true c11
        clear c11
        obtain ⟨ji12, hji12⟩ : ∃ j_ : Int, (wrap64 (x3_1 - 1)) = j_ := ⟨_, rfl⟩
        replace H : (if 0 ≤ (ji12) then (if (ji12) < (s0_4.length : Int) then (if ((Op.bytesLess (((rd_T143 s0_4 (ji12)).f0).toList) (((rd_T143 s0_4 x3_1).f0).toList)) = true) then (q1u.l0 k1 (wrap64 (x3_1 + 1)) s0_0 s0_1 s0_2 s0_3 s0_4) else (some (1, s0_0, s0_1, s0_2))) else (none)) else (none)) = some (r1, r2, r3, r4) := by (rw [hji12] at H; exact H)
        have hji12w : (IntKind.i64.wrap (x3_1 - 1)) = ji12 := (i64_w _).trans hji12
        replace H := ino H
        obtain ⟨c13, H⟩ := H
        have c13b0 : decide (0 ≤ (ji12)) = true := decide_eq_true c13
        clear c13
        replace H := ino H
        obtain ⟨c14, H⟩ := H
        have c14b0 : decide ((ji12) < (s0_4.length : Int)) = true := decide_eq_true c14
        clear c14
        by_cases c15 : ((Op.bytesLess (((rd_T143 s0_4 (ji12)).f0).toList) (((rd_T143 s0_4 x3_1).f0).toList)) = true)
        ·rw [if_pos c15] at H
         have c15b0 : (Op.bytesLess (((rd_T143 s0_4 (ji12)).f0).toList) (((rd_T143 s0_4 x3_1).f0).toList)) = true := c15
         clear c15
         have H' := Am H
         clear H
         obtain ⟨ASz16_3, cSz16_3, ASz16_4, cSz16_4, HGz16, hgz16, HSz16_3, HSz16_4⟩ := HI0.out
         have hcz16_0 := cellI86_0 HGz16
         have hcz16_1 := cellI86_1 HGz16
         have hcz16_2 := cellI86_2 HGz16
         have hcz16_3 := cellI86_3 HGz16
         have hcz16_4 := cellI86_4 HGz16
         clear HGz16 hgz16
         have p638 : 0 ≤ (x3_1 : Int) := od (by assumption)
         have q638 : x3_1 < (s0_4.length : Int) := od (by assumption)
         obtain ⟨ad638, e638, hx638_0, hx638_1⟩ := at_T143 HSz16_4.1 x3_1 p638 q638
         cases e638
         replace hx638_0 := pcb HB.out hx638_0
         replace hx638_1 := pcb HB.out hx638_1
         replace p638 := eq_true p638
         replace q638 := eq_true q638
         go_wp2_with (first | (go_at_call 290; (with_reducible refine (q1p.calls k1 ((rd_T143 s0_4 x3_1).f0) t639 _ A7.out).mono ?_); rintro e w' ⟨rfl, ⟨nd, rfl⟩⟩; have p640 : 0 ≤ (x3_1 : Int) := od (by assumption); have q640 : x3_1 < (s0_4.length : Int) := od (by assumption); obtain ⟨ad640, e640, hx640_0, hx640_1⟩ := at_T143 HSz16_4.1 x3_1 p640 q640; obtain rfl : ad638 = ad640 := (by injection e640); replace hx640_0 := pcb HB.out hx640_0; replace hx640_1 := pcb HB.out hx640_1; replace p640 := eq_true p640; replace q640 := eq_true q640) | (go_at_call 67; (with_reducible refine (q1r.calls ((rd_T143 s0_4 x3_1).f1) 0 9 true _ A9.out).mono ?_); rintro e w' ⟨rfl, ⟨nd, rfl⟩⟩; have p642 : 0 ≤ (x3_1 : Int) := od (by assumption); have q642 : x3_1 < (s0_4.length : Int) := od (by assumption); obtain ⟨ad642, e642, hx642_0, hx642_1⟩ := at_T143 HSz16_4.1 x3_1 p642 q642; obtain rfl : ad638 = ad642 := (by injection e642); replace hx642_0 := pcb HB.out hx642_0; replace hx642_1 := pcb HB.out hx642_1; replace p642 := eq_true p642; replace q642 := eq_true q642; have p643 : 0 ≤ ((ji12) : Int) := od (by assumption); have q643 : (ji12) < (s0_4.length : Int) := od (by assumption); obtain ⟨ad643, e643, hx643_0, hx643_1⟩ := at_T143 HSz16_4.1 (ji12) p643 q643; obtain rfl : ad638 = ad643 := (by injection e643); replace hx643_0 := pcb HB.out hx643_0; replace hx643_1 := pcb HB.out hx643_1; replace p643 := eq_true p643; replace q643 := eq_true q643))
         repeat (go_quiet (first | (go_at_call 290; (with_reducible refine (q1p.calls k1 ((rd_T143 s0_4 x3_1).f0) t639 _ A7.out).mono ?_); rintro e w' ⟨rfl, ⟨nd, rfl⟩⟩; (try first | exact ⟨rfl, _, World.drewN_drewN _ _ _⟩ | exact ⟨rfl, _, Eq.trans (World.drewN_drewN _ _ _) (congrArg (World.drewN _) (Nat.add_assoc _ _ _))⟩); have p640 : 0 ≤ (x3_1 : Int) := of_decide_eq_true (by first | (with_reducible assumption) | assumption); have q640 : x3_1 < (s0_4.length : Int) := of_decide_eq_true (by first | (with_reducible assumption) | assumption); obtain ⟨ad640, e640, hx640_0, hx640_1⟩ := at_T143 HSz16_4.1 x3_1 p640 q640; obtain rfl : ad638 = ad640 := (by injection e640); replace hx640_0 := pcb HB.out hx640_0; replace hx640_1 := pcb HB.out hx640_1; replace p640 := eq_true p640; replace q640 := eq_true q640) | (go_at_call 67; (with_reducible refine (q1r.calls ((rd_T143 s0_4 x3_1).f1) 0 9 true _ A9.out).mono ?_); rintro e w' ⟨rfl, ⟨nd, rfl⟩⟩; (try first | exact ⟨rfl, _, World.drewN_drewN _ _ _⟩ | exact ⟨rfl, _, Eq.trans (World.drewN_drewN _ _ _) (congrArg (World.drewN _) (Nat.add_assoc _ _ _))⟩); have p642 : 0 ≤ (x3_1 : Int) := of_decide_eq_true (by first | (with_reducible assumption) | assumption); have q642 : x3_1 < (s0_4.length : Int) := of_decide_eq_true (by first | (with_reducible assumption) | assumption); obtain ⟨ad642, e642, hx642_0, hx642_1⟩ := at_T143 HSz16_4.1 x3_1 p642 q642; obtain rfl : ad638 = ad642 := (by injection e642); replace hx642_0 := pcb HB.out hx642_0; replace hx642_1 := pcb HB.out hx642_1; replace p642 := eq_true p642; replace q642 := eq_true q642; have p643 : 0 ≤ ((ji12) : Int) := of_decide_eq_true (by first | (with_reducible assumption) | assumption); have q643 : (ji12) < (s0_4.length : Int) := of_decide_eq_true (by first | (with_reducible assumption) | assumption); obtain ⟨ad643, e643, hx643_0, hx643_1⟩ := at_T143 HSz16_4.1 (ji12) p643 q643; obtain rfl : ad638 = ad643 := (by injection e643); replace hx643_0 := pcb HB.out hx643_0; replace hx643_1 := pcb HB.out hx643_1; replace p643 := eq_true p643; replace q643 := eq_true q643)); try go_wp2_with (fail))
         go_roundg k1
         case measure => have := HK1.out; omega
         case rel => exact ⟨(wrap64 (x3_1 + 1)), (by rfl), H', ⟨by have := HK1.out; omega⟩, ⟨by repeat ((with_reducible first | exact HI0.out | apply InS86.drewN))⟩, ⟨by repeat ((with_reducible first | exact HK.out | apply keep_drewN))⟩, ⟨by repeat ((with_reducible first | exact HB.out | apply pw_below_drewN))⟩⟩
        ·rw [if_neg c15] at H
         have c15b0 : (Op.bytesLess (((rd_T143 s0_4 (ji12)).f0).toList) (((rd_T143 s0_4 x3_1).f0).toList)) = false := by simpa using c15
         clear c15
         simp only [Option.some.injEq, Prod.mk.injEq] at H
         obtain ⟨rfl, rfl, rfl, rfl⟩ := H
         obtain ⟨ASz17_3, cSz17_3, ASz17_4, cSz17_4, HGz17, hgz17, HSz17_3, HSz17_4⟩ := HI0.out
         have hcz17_0 := cellI86_0 HGz17
         have hcz17_1 := cellI86_1 HGz17
         have hcz17_2 := cellI86_2 HGz17
         have hcz17_3 := cellI86_3 HGz17
         have hcz17_4 := cellI86_4 HGz17
         clear HGz17 hgz17
         have p638 : 0 ≤ (x3_1 : Int) := od (by assumption)
         have q638 : x3_1 < (s0_4.length : Int) := od (by assumption)
         obtain ⟨ad638, e638, hx638_0, hx638_1⟩ := at_T143 HSz17_4.1 x3_1 p638 q638
         cases e638
         replace hx638_0 := pcb HB.out hx638_0
         replace hx638_1 := pcb HB.out hx638_1
         replace p638 := eq_true p638
         replace q638 := eq_true q638
         go_wp2_with (first | (go_at_call 290; (with_reducible refine (q1p.calls k1 ((rd_T143 s0_4 x3_1).f0) t639 _ A7.out).mono ?_); rintro e w' ⟨rfl, ⟨nd, rfl⟩⟩; have p640 : 0 ≤ (x3_1 : Int) := od (by assumption); have q640 : x3_1 < (s0_4.length : Int) := od (by assumption); obtain ⟨ad640, e640, hx640_0, hx640_1⟩ := at_T143 HSz17_4.1 x3_1 p640 q640; obtain rfl : ad638 = ad640 := (by injection e640); replace hx640_0 := pcb HB.out hx640_0; replace hx640_1 := pcb HB.out hx640_1; replace p640 := eq_true p640; replace q640 := eq_true q640) | (go_at_call 67; (with_reducible refine (q1r.calls ((rd_T143 s0_4 x3_1).f1) 0 9 true _ A9.out).mono ?_); rintro e w' ⟨rfl, ⟨nd, rfl⟩⟩; have p642 : 0 ≤ (x3_1 : Int) := od (by assumption); have q642 : x3_1 < (s0_4.length : Int) := od (by assumption); obtain ⟨ad642, e642, hx642_0, hx642_1⟩ := at_T143 HSz17_4.1 x3_1 p642 q642; obtain rfl : ad638 = ad642 := (by injection e642); replace hx642_0 := pcb HB.out hx642_0; replace hx642_1 := pcb HB.out hx642_1; replace p642 := eq_true p642; replace q642 := eq_true q642; have p643 : 0 ≤ ((ji12) : Int) := od (by assumption); have q643 : (ji12) < (s0_4.length : Int) := od (by assumption); obtain ⟨ad643, e643, hx643_0, hx643_1⟩ := at_T143 HSz17_4.1 (ji12) p643 q643; obtain rfl : ad638 = ad643 := (by injection e643); replace hx643_0 := pcb HB.out hx643_0; replace hx643_1 := pcb HB.out hx643_1; replace p643 := eq_true p643; replace q643 := eq_true q643))
         repeat (go_quiet (first | (go_at_call 290; (with_reducible refine (q1p.calls k1 ((rd_T143 s0_4 x3_1).f0) t639 _ A7.out).mono ?_); rintro e w' ⟨rfl, ⟨nd, rfl⟩⟩; (try first | exact ⟨rfl, _, World.drewN_drewN _ _ _⟩ | exact ⟨rfl, _, Eq.trans (World.drewN_drewN _ _ _) (congrArg (World.drewN _) (Nat.add_assoc _ _ _))⟩); have p640 : 0 ≤ (x3_1 : Int) := of_decide_eq_true (by first | (with_reducible assumption) | assumption); have q640 : x3_1 < (s0_4.length : Int) := of_decide_eq_true (by first | (with_reducible assumption) | assumption); obtain ⟨ad640, e640, hx640_0, hx640_1⟩ := at_T143 HSz17_4.1 x3_1 p640 q640; obtain rfl : ad638 = ad640 := (by injection e640); replace hx640_0 := pcb HB.out hx640_0; replace hx640_1 := pcb HB.out hx640_1; replace p640 := eq_true p640; replace q640 := eq_true q640) | (go_at_call 67; (with_reducible refine (q1r.calls ((rd_T143 s0_4 x3_1).f1) 0 9 true _ A9.out).mono ?_); rintro e w' ⟨rfl, ⟨nd, rfl⟩⟩; (try first | exact ⟨rfl, _, World.drewN_drewN _ _ _⟩ | exact ⟨rfl, _, Eq.trans (World.drewN_drewN _ _ _) (congrArg (World.drewN _) (Nat.add_assoc _ _ _))⟩); have p642 : 0 ≤ (x3_1 : Int) := of_decide_eq_true (by first | (with_reducible assumption) | assumption); have q642 : x3_1 < (s0_4.length : Int) := of_decide_eq_true (by first | (with_reducible assumption) | assumption); obtain ⟨ad642, e642, hx642_0, hx642_1⟩ := at_T143 HSz17_4.1 x3_1 p642 q642; obtain rfl : ad638 = ad642 := (by injection e642); replace hx642_0 := pcb HB.out hx642_0; replace hx642_1 := pcb HB.out hx642_1; replace p642 := eq_true p642; replace q642 := eq_true q642; have p643 : 0 ≤ ((ji12) : Int) := of_decide_eq_true (by first | (with_reducible assumption) | assumption); have q643 : (ji12) < (s0_4.length : Int) := of_decide_eq_true (by first | (with_reducible assumption) | assumption); obtain ⟨ad643, e643, hx643_0, hx643_1⟩ := at_T143 HSz17_4.1 (ji12) p643 q643; obtain rfl : ad638 = ad643 := (by injection e643); replace hx643_0 := pcb HB.out hx643_0; replace hx643_1 := pcb HB.out hx643_1; replace p643 := eq_true p643; replace q643 := eq_true q643)); try go_wp2_with (fail))
         go_ret
         exact ⟨by rfl, by repeat ((with_reducible first | exact HI0.out | apply InS86.drewN)), by repeat ((with_reducible first | exact HB.out | apply pw_below_drewN)), by repeat ((with_reducible first | exact HK.out | apply keep_drewN))⟩
       ·rw [if_neg c11] at H
        have c11b0 : decide (0 < x3_1) = false := decide_eq_false c11
        clear c11
        have H' := Am H
        clear H
        obtain ⟨ASz18_3, cSz18_3, ASz18_4, cSz18_4, HGz18, hgz18, HSz18_3, HSz18_4⟩ := HI0.out
        have hcz18_0 := cellI86_0 HGz18
        have hcz18_1 := cellI86_1 HGz18
        have hcz18_2 := cellI86_2 HGz18
        have hcz18_3 := cellI86_3 HGz18
        have hcz18_4 := cellI86_4 HGz18
        clear HGz18 hgz18
        have p638 : 0 ≤ (x3_1 : Int) := od (by assumption)
        have q638 : x3_1 < (s0_4.length : Int) := od (by assumption)
        obtain ⟨ad638, e638, hx638_0, hx638_1⟩ := at_T143 HSz18_4.1 x3_1 p638 q638
        cases e638
        replace hx638_0 := pcb HB.out hx638_0
        replace hx638_1 := pcb HB.out hx638_1
        replace p638 := eq_true p638
        replace q638 := eq_true q638
        go_wp2_with (first | (go_at_call 290; (with_reducible refine (q1p.calls k1 ((rd_T143 s0_4 x3_1).f0) t639 _ A7.out).mono ?_); rintro e w' ⟨rfl, ⟨nd, rfl⟩⟩; have p640 : 0 ≤ (x3_1 : Int) := od (by assumption); have q640 : x3_1 < (s0_4.length : Int) := od (by assumption); obtain ⟨ad640, e640, hx640_0, hx640_1⟩ := at_T143 HSz18_4.1 x3_1 p640 q640; obtain rfl : ad638 = ad640 := (by injection e640); replace hx640_0 := pcb HB.out hx640_0; replace hx640_1 := pcb HB.out hx640_1; replace p640 := eq_true p640; replace q640 := eq_true q640) | (go_at_call 67; (with_reducible refine (q1r.calls ((rd_T143 s0_4 x3_1).f1) 0 9 true _ A9.out).mono ?_); rintro e w' ⟨rfl, ⟨nd, rfl⟩⟩))
        repeat (go_quiet (first | (go_at_call 290; (with_reducible refine (q1p.calls k1 ((rd_T143 s0_4 x3_1).f0) t639 _ A7.out).mono ?_); rintro e w' ⟨rfl, ⟨nd, rfl⟩⟩; (try first | exact ⟨rfl, _, World.drewN_drewN _ _ _⟩ | exact ⟨rfl, _, Eq.trans (World.drewN_drewN _ _ _) (congrArg (World.drewN _) (Nat.add_assoc _ _ _))⟩); have p640 : 0 ≤ (x3_1 : Int) := of_decide_eq_true (by first | (with_reducible assumption) | assumption); have q640 : x3_1 < (s0_4.length : Int) := of_decide_eq_true (by first | (with_reducible assumption) | assumption); obtain ⟨ad640, e640, hx640_0, hx640_1⟩ := at_T143 HSz18_4.1 x3_1 p640 q640; obtain rfl : ad638 = ad640 := (by injection e640); replace hx640_0 := pcb HB.out hx640_0; replace hx640_1 := pcb HB.out hx640_1; replace p640 := eq_true p640; replace q640 := eq_true q640) | (go_at_call 67; (with_reducible refine (q1r.calls ((rd_T143 s0_4 x3_1).f1) 0 9 true _ A9.out).mono ?_); rintro e w' ⟨rfl, ⟨nd, rfl⟩⟩; (try first | exact ⟨rfl, _, World.drewN_drewN _ _ _⟩ | exact ⟨rfl, _, Eq.trans (World.drewN_drewN _ _ _) (congrArg (World.drewN _) (Nat.add_assoc _ _ _))⟩))); try go_wp2_with (fail))
        go_roundg k1
        case measure => have := HK1.out; omega
        case rel => exact ⟨(wrap64 (x3_1 + 1)), (by rfl), H', ⟨by have := HK1.out; omega⟩, ⟨by repeat ((with_reducible first | exact HI0.out | apply InS86.drewN))⟩, ⟨by repeat ((with_reducible first | exact HK.out | apply keep_drewN))⟩, ⟨by repeat ((with_reducible first | exact HB.out | apply pw_below_drewN))⟩⟩
      ·replace c10 := Bool.eq_false_iff.mpr c10
       subst c10
       have H1 : (some (3, s0_0, s0_1, s0_2)) = some (r1, r2, r3, r4) := by rw [if_neg (show ¬ (false = true) by decide)] at H; exact H
       clear H
       have H := H1
       clear H1
       simp only [Option.some.injEq, Prod.mk.injEq] at H
       obtain ⟨rfl, rfl, rfl, rfl⟩ := H
       obtain ⟨ASz19_3, cSz19_3, ASz19_4, cSz19_4, HGz19, hgz19, HSz19_3, HSz19_4⟩ := HI0.out
       have hcz19_0 := cellI86_0 HGz19
       have hcz19_1 := cellI86_1 HGz19
       have hcz19_2 := cellI86_2 HGz19
       have hcz19_3 := cellI86_3 HGz19
       have hcz19_4 := cellI86_4 HGz19
       clear HGz19 hgz19
       have p638 : 0 ≤ (x3_1 : Int) := od (by assumption)
       have q638 : x3_1 < (s0_4.length : Int) := od (by assumption)
       obtain ⟨ad638, e638, hx638_0, hx638_1⟩ := at_T143 HSz19_4.1 x3_1 p638 q638
       cases e638
       replace hx638_0 := pcb HB.out hx638_0
       replace hx638_1 := pcb HB.out hx638_1
       replace p638 := eq_true p638
       replace q638 := eq_true q638
       go_wp2_with (first | (go_at_call 290; (with_reducible refine (q1p.calls k1 ((rd_T143 s0_4 x3_1).f0) t639 _ A7.out).mono ?_); rintro e w' ⟨rfl, ⟨nd, rfl⟩⟩; have p640 : 0 ≤ (x3_1 : Int) := od (by assumption); have q640 : x3_1 < (s0_4.length : Int) := od (by assumption); obtain ⟨ad640, e640, hx640_0, hx640_1⟩ := at_T143 HSz19_4.1 x3_1 p640 q640; obtain rfl : ad638 = ad640 := (by injection e640); replace hx640_0 := pcb HB.out hx640_0; replace hx640_1 := pcb HB.out hx640_1; replace p640 := eq_true p640; replace q640 := eq_true q640) | (go_at_call 67; (with_reducible refine (q1r.calls ((rd_T143 s0_4 x3_1).f1) 0 9 false _ A9.out).mono ?_); rintro e w' ⟨rfl, ⟨nd, rfl⟩⟩))
       repeat (go_quiet (first | (go_at_call 290; (with_reducible refine (q1p.calls k1 ((rd_T143 s0_4 x3_1).f0) t639 _ A7.out).mono ?_); rintro e w' ⟨rfl, ⟨nd, rfl⟩⟩; (try first | exact ⟨rfl, _, World.drewN_drewN _ _ _⟩ | exact ⟨rfl, _, Eq.trans (World.drewN_drewN _ _ _) (congrArg (World.drewN _) (Nat.add_assoc _ _ _))⟩); have p640 : 0 ≤ (x3_1 : Int) := of_decide_eq_true (by first | (with_reducible assumption) | assumption); have q640 : x3_1 < (s0_4.length : Int) := of_decide_eq_true (by first | (with_reducible assumption) | assumption); obtain ⟨ad640, e640, hx640_0, hx640_1⟩ := at_T143 HSz19_4.1 x3_1 p640 q640; obtain rfl : ad638 = ad640 := (by injection e640); replace hx640_0 := pcb HB.out hx640_0; replace hx640_1 := pcb HB.out hx640_1; replace p640 := eq_true p640; replace q640 := eq_true q640) | (go_at_call 67; (with_reducible refine (q1r.calls ((rd_T143 s0_4 x3_1).f1) 0 9 false _ A9.out).mono ?_); rintro e w' ⟨rfl, ⟨nd, rfl⟩⟩; (try first | exact ⟨rfl, _, World.drewN_drewN _ _ _⟩ | exact ⟨rfl, _, Eq.trans (World.drewN_drewN _ _ _) (congrArg (World.drewN _) (Nat.add_assoc _ _ _))⟩))))
       go_ret
       exact ⟨by rfl, by repeat ((with_reducible first | exact HI0.out | apply InS86.drewN)), by repeat ((with_reducible first | exact HB.out | apply pw_below_drewN)), by repeat ((with_reducible first | exact HK.out | apply keep_drewN))⟩
     ·rw [if_neg c8] at H
      have c8b0 : (t639 == 0) = false := beq_eq_false_iff_ne.mpr c8
      have c8b1 : (t639 != 0) = true := bne_iff_ne.mpr c8
      simp only [Option.some.injEq, Prod.mk.injEq] at H
      obtain ⟨rfl, rfl, rfl, rfl⟩ := H
      obtain ⟨ASz20_3, cSz20_3, ASz20_4, cSz20_4, HGz20, hgz20, HSz20_3, HSz20_4⟩ := HI0.out
      have hcz20_0 := cellI86_0 HGz20
      have hcz20_1 := cellI86_1 HGz20
      have hcz20_2 := cellI86_2 HGz20
      have hcz20_3 := cellI86_3 HGz20
      have hcz20_4 := cellI86_4 HGz20
      clear HGz20 hgz20
      have p638 : 0 ≤ (x3_1 : Int) := od (by assumption)
      have q638 : x3_1 < (s0_4.length : Int) := od (by assumption)
      obtain ⟨ad638, e638, hx638_0, hx638_1⟩ := at_T143 HSz20_4.1 x3_1 p638 q638
      cases e638
      replace hx638_0 := pcb HB.out hx638_0
      replace hx638_1 := pcb HB.out hx638_1
      replace p638 := eq_true p638
      replace q638 := eq_true q638
      go_wp2_with ((go_at_call 290; (with_reducible refine (q1p.calls k1 ((rd_T143 s0_4 x3_1).f0) t639 _ A7.out).mono ?_); rintro e w' ⟨rfl, ⟨nd, rfl⟩⟩))
      repeat (go_quiet (first | (go_at_call 290; (with_reducible refine (q1p.calls k1 ((rd_T143 s0_4 x3_1).f0) t639 _ A7.out).mono ?_); rintro e w' ⟨rfl, ⟨nd, rfl⟩⟩; (try first | exact ⟨rfl, _, World.drewN_drewN _ _ _⟩ | exact ⟨rfl, _, Eq.trans (World.drewN_drewN _ _ _) (congrArg (World.drewN _) (Nat.add_assoc _ _ _))⟩))))
      go_ret
      exact ⟨by rfl, by repeat ((with_reducible first | exact HI0.out | apply InS86.drewN)), by repeat ((with_reducible first | exact HB.out | apply pw_below_drewN)), by repeat ((with_reducible first | exact HK.out | apply keep_drewN))⟩
    ·rw [if_neg c5] at H
     have c5b0 : decide (x3_1 < (s0_4.length : Int)) = false := decide_eq_false c5
     clear c5
     simp only [Option.some.injEq, Prod.mk.injEq] at H
     obtain ⟨rfl, rfl, rfl, rfl⟩ := H
     obtain ⟨ASz21_3, cSz21_3, ASz21_4, cSz21_4, HGz21, hgz21, HSz21_3, HSz21_4⟩ := HI0.out
     have hcz21_0 := cellI86_0 HGz21
     have hcz21_1 := cellI86_1 HGz21
     have hcz21_2 := cellI86_2 HGz21
     have hcz21_3 := cellI86_3 HGz21
     have hcz21_4 := cellI86_4 HGz21
     clear HGz21 hgz21
     go_wp2
     repeat (go_quiet (fail))
     go_ret
     exact ⟨by rfl, HI0.out, HB.out, HK.out⟩
set_option maxHeartbeats 8000000 in
set_option maxRecDepth 100000 in
theorem q1v.callsI (k : Nat) (g : Nat) {o : Nat} (s0_0 : Int) (s0_1 : Int) (s0_2 : Int) (s0_3 : List Int) (s0_4 : List (S143)) (r1 : Int) (r2 : Int) (r3 : Int) (r4 : Int) (w0 w : World) (hI : InS86 w0 w g o s0_0 s0_1 s0_2 s0_3 s0_4) (hB : Below w0.heap.size w0 w) (h : q1v.f k s0_0 s0_1 s0_2 s0_3 s0_4 = some (r1, r2, r3, r4)) :
  Calls Tryz.prog 243 #[.pointer (some ⟨g, o, none⟩)] w fun e w' => e = .returned (.int .i64 r1) ∧ InS86 w0 w' g o r2 r3 r4 s0_3 s0_4 ∧ Below w0.heap.size w0 w' ∧ KeepBut w w' g none := by
 have HI0 := Am hI
 have HK := Am (KeepBut.refl w g none)
 have HL := Am hB.size
 clear hI
 have HW0 := Am hB.size
 have HB := Am hB
 clear hB
 have H : ((q1r.f s0_0 0 2).bind fun t644 => (if t644 = true then (if s0_0 = 1 then (if s0_0 = 2 then (q1v.j0 k false s0_0 s0_1 s0_2 s0_3 s0_4) else (q1v.j0 k (decide ((s0_4.length : Int) > 0)) s0_0 s0_1 s0_2 s0_3 s0_4)) else (if s0_1 = 0 then (if s0_2 = 0 then (if (s0_3.length : Int) > 0 then (q1v.j0 k true s0_0 s0_1 s0_2 s0_3 s0_4) else (if s0_0 = 2 then (q1v.j0 k false s0_0 s0_1 s0_2 s0_3 s0_4) else (q1v.j0 k (decide ((s0_4.length : Int) > 0)) s0_0 s0_1 s0_2 s0_3 s0_4))) else (q1v.j0 k true s0_0 s0_1 s0_2 s0_3 s0_4)) else (q1v.j0 k true s0_0 s0_1 s0_2 s0_3 s0_4))) else (some (1, s0_0, s0_1, s0_2)))) = some (r1, r2, r3, r4) := h
 clear h
 replace H := zbs H
 obtain ⟨t644, A2, H⟩ := H
 by_cases c3 : t644 = true
 ·subst c3
  have H1 : (if s0_0 = 1 then (if s0_0 = 2 then (q1v.j0 k false s0_0 s0_1 s0_2 s0_3 s0_4) else (q1v.j0 k (decide ((s0_4.length : Int) > 0)) s0_0 s0_1 s0_2 s0_3 s0_4)) else (if s0_1 = 0 then (if s0_2 = 0 then (if (s0_3.length : Int) > 0 then (q1v.j0 k true s0_0 s0_1 s0_2 s0_3 s0_4) else (if s0_0 = 2 then (q1v.j0 k false s0_0 s0_1 s0_2 s0_3 s0_4) else (q1v.j0 k (decide ((s0_4.length : Int) > 0)) s0_0 s0_1 s0_2 s0_3 s0_4))) else (q1v.j0 k true s0_0 s0_1 s0_2 s0_3 s0_4)) else (q1v.j0 k true s0_0 s0_1 s0_2 s0_3 s0_4))) = some (r1, r2, r3, r4) := by rw [if_pos rfl] at H; exact H
  clear H
  have H := H1
  clear H1
  have HC4 := Am H
  clear H
  obtain ⟨ASz5_3, cSz5_3, ASz5_4, cSz5_4, HGz5, hgz5, HSz5_3, HSz5_4⟩ := HI0.out
  have hcz5_0 := cellI86_0 HGz5
  have hcz5_1 := cellI86_1 HGz5
  have hcz5_2 := cellI86_2 HGz5
  have hcz5_3 := cellI86_3 HGz5
  have hcz5_4 := cellI86_4 HGz5
  clear HGz5 hgz5
  go_enter Tryz.func243, Tryz.ntmps243
  go_upto_region 3 with (((with_reducible refine gate_callee (f := 67) rfl ?_); refine goesL_ (some 7) rfl rfl Tryz.func67 (by kernel_rfl) rfl #[.int .i64 s0_0, .int .i64 0, .int .i64 2] rfl (by (try simp only [List.map_toArray, List.map_cons, List.map_nil]); rfl) ?_; (with_reducible refine (q1r.calls s0_0 0 2 true _ A2.out).mono ?_); rintro e w' ⟨rfl, ⟨nd, rfl⟩⟩; refine ⟨_, rfl, ?_⟩))
  go_cut [50] (fun v50 wc => ∃ (kq : Nat) (x50_3 : Bool), v50 = .bool x50_3 ∧ Aside0 (q1v.j0 kq x50_3 s0_0 s0_1 s0_2 s0_3 s0_4 = some (r1, r2, r3, r4)) ∧ Aside0 (kq ≤ k) ∧ Aside0 (InS86 w0 wc g o s0_0 s0_1 s0_2 s0_3 s0_4) ∧ Aside0 (KeepBut w wc g none) ∧ Aside0 (Below w0.heap.size w0 wc))
  case first =>
   have H := HC4.out
   clear HC4
   by_cases c6 : s0_0 = 1
   ·rw [if_pos c6] at H
    have c6b0 : (s0_0 == 1) = true := beq_iff_eq.mpr c6
    have c6b1 : (s0_0 != 1) = false := bne_eq_false_iff_eq.mpr c6
    clear c6
    by_cases c7 : s0_0 = 2
    ·rw [if_pos c7] at H
     have c7b0 : (s0_0 == 2) = true := beq_iff_eq.mpr c7
     have c7b1 : (s0_0 != 2) = false := bne_eq_false_iff_eq.mpr c7
     clear c7
     have H' := Am H
     clear H
     obtain ⟨ASz8_3, cSz8_3, ASz8_4, cSz8_4, HGz8, hgz8, HSz8_3, HSz8_4⟩ := HI0.out
     have hcz8_0 := cellI86_0 HGz8
     have hcz8_1 := cellI86_1 HGz8
     have hcz8_2 := cellI86_2 HGz8
     have hcz8_3 := cellI86_3 HGz8
     have hcz8_4 := cellI86_4 HGz8
     clear HGz8 hgz8
     go_wp2
     go_meet
     case rel => exact ⟨_, (false), (by rfl), H', ⟨by omega⟩, ⟨by repeat ((with_reducible first | exact HI0.out | apply InS86.drewN))⟩, ⟨by repeat ((with_reducible first | exact HK.out | apply keep_drewN))⟩, ⟨by repeat ((with_reducible first | exact HB.out | apply pw_below_drewN))⟩⟩
    ·rw [if_neg c7] at H
     have c7b0 : (s0_0 == 2) = false := beq_eq_false_iff_ne.mpr c7
     have c7b1 : (s0_0 != 2) = true := bne_iff_ne.mpr c7
     have H' := Am H
     clear H
     obtain ⟨ASz9_3, cSz9_3, ASz9_4, cSz9_4, HGz9, hgz9, HSz9_3, HSz9_4⟩ := HI0.out
     have hcz9_0 := cellI86_0 HGz9
     have hcz9_1 := cellI86_1 HGz9
     have hcz9_2 := cellI86_2 HGz9
     have hcz9_3 := cellI86_3 HGz9
     have hcz9_4 := cellI86_4 HGz9
     clear HGz9 hgz9
     go_wp2
     go_meet
     case rel => exact ⟨_, (decide ((s0_4.length : Int) > 0)), (by (simp; done)), H', ⟨by omega⟩, ⟨by repeat ((with_reducible first | exact HI0.out | apply InS86.drewN))⟩, ⟨by repeat ((with_reducible first | exact HK.out | apply keep_drewN))⟩, ⟨by repeat ((with_reducible first | exact HB.out | apply pw_below_drewN))⟩⟩
   ·rw [if_neg c6] at H
    have c6b0 : (s0_0 == 1) = false := beq_eq_false_iff_ne.mpr c6
    have c6b1 : (s0_0 != 1) = true := bne_iff_ne.mpr c6
    by_cases c10 : s0_1 = 0
    ·rw [if_pos c10] at H
     have c10b0 : (s0_1 == 0) = true := beq_iff_eq.mpr c10
     have c10b1 : (s0_1 != 0) = false := bne_eq_false_iff_eq.mpr c10
     clear c10
     by_cases c11 : s0_2 = 0
     ·rw [if_pos c11] at H
      have c11b0 : (s0_2 == 0) = true := beq_iff_eq.mpr c11
      have c11b1 : (s0_2 != 0) = false := bne_eq_false_iff_eq.mpr c11
      clear c11
      by_cases c12 : (s0_3.length : Int) > 0
      ·rw [if_pos c12] at H
       have c12b0 : decide (0 < (s0_3.length : Int)) = true := decide_eq_true c12
       have c12b1 : decide (0 < s0_3.length) = true := decide_eq_true (by omega)
       clear c12
       have H' := Am H
       clear H
       obtain ⟨ASz13_3, cSz13_3, ASz13_4, cSz13_4, HGz13, hgz13, HSz13_3, HSz13_4⟩ := HI0.out
       have hcz13_0 := cellI86_0 HGz13
       have hcz13_1 := cellI86_1 HGz13
       have hcz13_2 := cellI86_2 HGz13
       have hcz13_3 := cellI86_3 HGz13
       have hcz13_4 := cellI86_4 HGz13
       clear HGz13 hgz13
       go_wp2
       go_meet
       case rel => exact ⟨_, (true), (by rfl), H', ⟨by omega⟩, ⟨by repeat ((with_reducible first | exact HI0.out | apply InS86.drewN))⟩, ⟨by repeat ((with_reducible first | exact HK.out | apply keep_drewN))⟩, ⟨by repeat ((with_reducible first | exact HB.out | apply pw_below_drewN))⟩⟩
      ·rw [if_neg c12] at H
       have c12b0 : decide (0 < (s0_3.length : Int)) = false := decide_eq_false c12
       have c12b1 : decide (0 < s0_3.length) = false := decide_eq_false (by omega)
       clear c12
       by_cases c14 : s0_0 = 2
       ·rw [if_pos c14] at H
        have c14b0 : (s0_0 == 2) = true := beq_iff_eq.mpr c14
        have c14b1 : (s0_0 != 2) = false := bne_eq_false_iff_eq.mpr c14
        clear c14
        have H' := Am H
        clear H
        obtain ⟨ASz15_3, cSz15_3, ASz15_4, cSz15_4, HGz15, hgz15, HSz15_3, HSz15_4⟩ := HI0.out
        have hcz15_0 := cellI86_0 HGz15
        have hcz15_1 := cellI86_1 HGz15
        have hcz15_2 := cellI86_2 HGz15
        have hcz15_3 := cellI86_3 HGz15
        have hcz15_4 := cellI86_4 HGz15
        clear HGz15 hgz15
        go_wp2
        go_meet
        case rel => exact ⟨_, (false), (by rfl), H', ⟨by omega⟩, ⟨by repeat ((with_reducible first | exact HI0.out | apply InS86.drewN))⟩, ⟨by repeat ((with_reducible first | exact HK.out | apply keep_drewN))⟩, ⟨by repeat ((with_reducible first | exact HB.out | apply pw_below_drewN))⟩⟩
       ·rw [if_neg c14] at H
        have c14b0 : (s0_0 == 2) = false := beq_eq_false_iff_ne.mpr c14
        have c14b1 : (s0_0 != 2) = true := bne_iff_ne.mpr c14
        have H' := Am H
        clear H
        obtain ⟨ASz16_3, cSz16_3, ASz16_4, cSz16_4, HGz16, hgz16, HSz16_3, HSz16_4⟩ := HI0.out
        have hcz16_0 := cellI86_0 HGz16
        have hcz16_1 := cellI86_1 HGz16
        have hcz16_2 := cellI86_2 HGz16
        have hcz16_3 := cellI86_3 HGz16
        have hcz16_4 := cellI86_4 HGz16
        clear HGz16 hgz16
        go_wp2
        go_meet
        case rel => exact ⟨_, (decide ((s0_4.length : Int) > 0)), (by (simp; done)), H', ⟨by omega⟩, ⟨by repeat ((with_reducible first | exact HI0.out | apply InS86.drewN))⟩, ⟨by repeat ((with_reducible first | exact HK.out | apply keep_drewN))⟩, ⟨by repeat ((with_reducible first | exact HB.out | apply pw_below_drewN))⟩⟩
     ·rw [if_neg c11] at H
      have c11b0 : (s0_2 == 0) = false := beq_eq_false_iff_ne.mpr c11
      have c11b1 : (s0_2 != 0) = true := bne_iff_ne.mpr c11
      have H' := Am H
      clear H
      obtain ⟨ASz17_3, cSz17_3, ASz17_4, cSz17_4, HGz17, hgz17, HSz17_3, HSz17_4⟩ := HI0.out
      have hcz17_0 := cellI86_0 HGz17
      have hcz17_1 := cellI86_1 HGz17
      have hcz17_2 := cellI86_2 HGz17
      have hcz17_3 := cellI86_3 HGz17
      have hcz17_4 := cellI86_4 HGz17
      clear HGz17 hgz17
      go_wp2
      go_meet
      case rel => exact ⟨_, (true), (by rfl), H', ⟨by omega⟩, ⟨by repeat ((with_reducible first | exact HI0.out | apply InS86.drewN))⟩, ⟨by repeat ((with_reducible first | exact HK.out | apply keep_drewN))⟩, ⟨by repeat ((with_reducible first | exact HB.out | apply pw_below_drewN))⟩⟩
    ·rw [if_neg c10] at H
     have c10b0 : (s0_1 == 0) = false := beq_eq_false_iff_ne.mpr c10
     have c10b1 : (s0_1 != 0) = true := bne_iff_ne.mpr c10
     have H' := Am H
     clear H
     obtain ⟨ASz18_3, cSz18_3, ASz18_4, cSz18_4, HGz18, hgz18, HSz18_3, HSz18_4⟩ := HI0.out
     have hcz18_0 := cellI86_0 HGz18
     have hcz18_1 := cellI86_1 HGz18
     have hcz18_2 := cellI86_2 HGz18
     have hcz18_3 := cellI86_3 HGz18
     have hcz18_4 := cellI86_4 HGz18
     clear HGz18 hgz18
     go_wp2
     go_meet
     case rel => exact ⟨_, (true), (by rfl), H', ⟨by omega⟩, ⟨by repeat ((with_reducible first | exact HI0.out | apply InS86.drewN))⟩, ⟨by repeat ((with_reducible first | exact HK.out | apply keep_drewN))⟩, ⟨by repeat ((with_reducible first | exact HB.out | apply pw_below_drewN))⟩⟩
  case rest =>
   clear HC4
   try clear hcz5_0
   try clear hcz5_1
   try clear hcz5_2
   try clear hcz5_3
   try clear hcz5_4
   obtain ⟨kq, x50_3, rfl, HA, HJ3, HI0, HK, HB⟩ := hcut
   cases kq with
   | zero => exact absurd HA.out (by simp [q1v.j0])
   | succ kj3 =>
    have H := HA.out
    clear HA
    simp only [q1v.j0] at H
    by_cases c19 : x50_3 = true
    ·subst c19
     have H1 : (some (1, s0_0, s0_1, s0_2)) = some (r1, r2, r3, r4) := by rw [if_pos rfl] at H; exact H
     clear H
     have H := H1
     clear H1
     simp only [Option.some.injEq, Prod.mk.injEq] at H
     obtain ⟨rfl, rfl, rfl, rfl⟩ := H
     go_wp2
     go_ret
     exact ⟨by rfl, HI0.out, HB.out, HK.out⟩
    ·replace c19 := Bool.eq_false_iff.mpr c19
     subst c19
     have H1 : (if s0_0 = 1 then ((q1w.f kj3 s0_0 s0_1 s0_2 s0_3 s0_4).bind fun bt645 => (some (bt645.1, bt645.2.1, bt645.2.2.1, bt645.2.2.2))) else (if s0_0 = 2 then ((q1u.f kj3 s0_0 s0_1 s0_2 s0_3 s0_4).bind fun bt649 => (some (bt649.1, bt649.2.1, bt649.2.2.1, bt649.2.2.2))) else (some (0, s0_0, s0_1, s0_2)))) = some (r1, r2, r3, r4) := by rw [if_neg (show ¬ (false = true) by decide)] at H; exact H
     clear H
     have H := H1
     clear H1
     by_cases c20 : s0_0 = 1
     ·rw [if_pos c20] at H
      have c20b0 : (s0_0 == 1) = true := beq_iff_eq.mpr c20
      have c20b1 : (s0_0 != 1) = false := bne_eq_false_iff_eq.mpr c20
      clear c20
      replace H := Option.bind_eq_some_iff.mp H
      obtain ⟨⟨t645, t646, t647, t648⟩, A210, H⟩ := H
      replace H : (some (t645, t646, t647, t648)) = some (r1, r2, r3, r4) := H
      have A21 := Am A210
      clear A210
      simp only [Option.some.injEq, Prod.mk.injEq] at H
      obtain ⟨rfl, rfl, rfl, rfl⟩ := H
      obtain ⟨ASz22_3, cSz22_3, ASz22_4, cSz22_4, HGz22, hgz22, HSz22_3, HSz22_4⟩ := HI0.out
      have hcz22_0 := cellI86_0 HGz22
      have hcz22_1 := cellI86_1 HGz22
      have hcz22_2 := cellI86_2 HGz22
      have hcz22_3 := cellI86_3 HGz22
      have hcz22_4 := cellI86_4 HGz22
      clear HGz22 hgz22
      go_wp2_with (((with_reducible refine gate_callee (f := 281) rfl ?_); refine goesL_ (some 58) rfl rfl Tryz.func281 (by kernel_rfl) rfl #[.pointer (some ⟨g, o, none⟩)] rfl (by (try simp only [List.map_toArray, List.map_cons, List.map_nil]); rfl) ?_; (with_reducible refine (q1w.callsI kj3 g s0_0 s0_1 s0_2 s0_3 s0_4 t645 t646 t647 t648 w0 _ ?side1 ?side2 A21.out).mono ?_); (case side1 => repeat ((with_reducible exact HI0.out))); (case side2 => repeat ((with_reducible exact HB.out))); rintro e w23 ⟨rfl, hi, hb, hk⟩; refine ⟨_, rfl, ?_⟩; replace HK := Am (KeepBut.trans HK.out hk (.inl rfl)); replace HB := Am hb; replace HI0 := Am hi; (try clear hb); (try clear hk); (try clear hi)))
      go_ret
      exact ⟨by rfl, HI0.out, HB.out, HK.out⟩
     ·rw [if_neg c20] at H
      have c20b0 : (s0_0 == 1) = false := beq_eq_false_iff_ne.mpr c20
      have c20b1 : (s0_0 != 1) = true := bne_iff_ne.mpr c20
      by_cases c24 : s0_0 = 2
      ·rw [if_pos c24] at H
       have c24b0 : (s0_0 == 2) = true := beq_iff_eq.mpr c24
       have c24b1 : (s0_0 != 2) = false := bne_eq_false_iff_eq.mpr c24
       clear c24
       replace H := Option.bind_eq_some_iff.mp H
       obtain ⟨⟨t649, t650, t651, t652⟩, A250, H⟩ := H
       replace H : (some (t649, t650, t651, t652)) = some (r1, r2, r3, r4) := H
       have A25 := Am A250
       clear A250
       simp only [Option.some.injEq, Prod.mk.injEq] at H
       obtain ⟨rfl, rfl, rfl, rfl⟩ := H
       obtain ⟨ASz26_3, cSz26_3, ASz26_4, cSz26_4, HGz26, hgz26, HSz26_3, HSz26_4⟩ := HI0.out
       have hcz26_0 := cellI86_0 HGz26
       have hcz26_1 := cellI86_1 HGz26
       have hcz26_2 := cellI86_2 HGz26
       have hcz26_3 := cellI86_3 HGz26
       have hcz26_4 := cellI86_4 HGz26
       clear HGz26 hgz26
       go_wp2_with (((with_reducible refine gate_callee (f := 282) rfl ?_); refine goesL_ (some 62) rfl rfl Tryz.func282 (by kernel_rfl) rfl #[.pointer (some ⟨g, o, none⟩)] rfl (by (try simp only [List.map_toArray, List.map_cons, List.map_nil]); rfl) ?_; (with_reducible refine (q1u.callsI kj3 g s0_0 s0_1 s0_2 s0_3 s0_4 t649 t650 t651 t652 w0 _ ?side1 ?side2 A25.out).mono ?_); (case side1 => repeat ((with_reducible exact HI0.out))); (case side2 => repeat ((with_reducible exact HB.out))); rintro e w27 ⟨rfl, hi, hb, hk⟩; refine ⟨_, rfl, ?_⟩; replace HK := Am (KeepBut.trans HK.out hk (.inl rfl)); replace HB := Am hb; replace HI0 := Am hi; (try clear hb); (try clear hk); (try clear hi)))
       go_ret
       exact ⟨by rfl, HI0.out, HB.out, HK.out⟩
      ·rw [if_neg c24] at H
       have c24b0 : (s0_0 == 2) = false := beq_eq_false_iff_ne.mpr c24
       have c24b1 : (s0_0 != 2) = true := bne_iff_ne.mpr c24
       simp only [Option.some.injEq, Prod.mk.injEq] at H
       obtain ⟨rfl, rfl, rfl, rfl⟩ := H
       obtain ⟨ASz28_3, cSz28_3, ASz28_4, cSz28_4, HGz28, hgz28, HSz28_3, HSz28_4⟩ := HI0.out
       have hcz28_0 := cellI86_0 HGz28
       have hcz28_1 := cellI86_1 HGz28
       have hcz28_2 := cellI86_2 HGz28
       have hcz28_3 := cellI86_3 HGz28
       have hcz28_4 := cellI86_4 HGz28
       clear HGz28 hgz28
       go_wp2
       go_ret
       exact ⟨by rfl, HI0.out, HB.out, HK.out⟩
 ·replace c3 := Bool.eq_false_iff.mpr c3
  subst c3
  have H1 : (some (1, s0_0, s0_1, s0_2)) = some (r1, r2, r3, r4) := by rw [if_neg (show ¬ (false = true) by decide)] at H; exact H
  clear H
  have H := H1
  clear H1
  simp only [Option.some.injEq, Prod.mk.injEq] at H
  obtain ⟨rfl, rfl, rfl, rfl⟩ := H
  obtain ⟨ASz29_3, cSz29_3, ASz29_4, cSz29_4, HGz29, hgz29, HSz29_3, HSz29_4⟩ := HI0.out
  have hcz29_0 := cellI86_0 HGz29
  have hcz29_1 := cellI86_1 HGz29
  have hcz29_2 := cellI86_2 HGz29
  have hcz29_3 := cellI86_3 HGz29
  have hcz29_4 := cellI86_4 HGz29
  clear HGz29 hgz29
  go_enter Tryz.func243, Tryz.ntmps243
  go_wp2_with (((with_reducible refine gate_callee (f := 67) rfl ?_); refine goesL_ (some 7) rfl rfl Tryz.func67 (by kernel_rfl) rfl #[.int .i64 s0_0, .int .i64 0, .int .i64 2] rfl (by (try simp only [List.map_toArray, List.map_cons, List.map_nil]); rfl) ?_; (with_reducible refine (q1r.calls s0_0 0 2 false _ A2.out).mono ?_); rintro e w' ⟨rfl, ⟨nd, rfl⟩⟩; refine ⟨_, rfl, ?_⟩))
  go_ret
  exact ⟨by rfl, by repeat ((with_reducible first | exact HI0.out | apply InS86.drewN)), by repeat ((with_reducible first | exact HB.out | apply pw_below_drewN)), by repeat ((with_reducible first | exact HK.out | apply keep_drewN))⟩
def q21.l0 : Nat → Int → List S86 → Option Int
 | 0, _, _ => none
 | k + 1, i, l0 => if i < (l0.length : Int) then ((q1v.f k (rd_T86 l0 i).f0 (rd_T86 l0 i).f1 (rd_T86 l0 i).f2 (rd_T86 l0 i).f3 (rd_T86 l0 i).f4).bind fun t => if t.1 = 0 then q21.l0 k (i + 1) l0 else some t.1) else some 0
def q21.f (k : Nat) (l0 : List S86) : Option Int := if (l0.length : Int) > 10 then some 2 else q21.l0 k 0 l0
theorem q21.mono_l : ∀ k i l0, LeO (q21.l0 k i l0) (q21.l0 (k + 1) i l0)
 | 0 => fun _ _ r h => by simp [q21.l0] at h
 | k + 1 => by
  have ih := q21.mono_l k
  intro i l0
  unfold q21.l0
  refine LeO.ite (LeO.bind (q1v.mono _ _ _ _ _ _) fun t => LeO.ite (ih _ _) (LeO.refl _)) (LeO.refl _)
theorem q21.mono : ∀ a0 k, LeO (q21.f k a0) (q21.f (k + 1) a0) := by
 intro a0 k
 unfold q21.f
 exact LeO.ite (LeO.refl _) (q21.mono_l _ _ _)
set_option maxHeartbeats 4000000 in
set_option maxRecDepth 100000 in
theorem q21.calls (k : Nat) (A0 : Option Addr) (c0 : Nat) (l0 : List S86) (r : Int) (w : World) (hr0 : Kd.C k86 w A0 l0.length l0) (hc0 : l0.length ≤ c0) (h : q21.f k l0 = some r) :
  Calls Tryz.prog 194 #[.slice A0 l0.length c0] w fun e w' => e = .returned (.int .i64 r) ∧ Below w.heap.size w w' := by
 unfold q21.f at h
 have HR0 := Am hr0
 clear hr0 hc0
 go_enter Tryz.func194, Tryz.ntmps194
 by_cases hlen : (l0.length : Int) > 10
 ·rw [if_pos hlen] at h
  injection h with h
  subst h
  have hlen' : (10 : Int) < (l0.length : Int) := hlen
  clear hlen
  go_wp2_with fail
  go_ret
  exact ⟨rfl, Below.refl _ _⟩
 ·rw [if_neg hlen] at h
  have hlen' : ¬ (10 : Int) < (l0.length : Int) := hlen
  clear hlen
  have H0 := Am h
  clear h
  go_wp2_with fail
  go_loopw [3] (fun v3 wr => ∃ (i : Int) (kq : Nat), v3 = .int .i64 i ∧ 0 ≤ i ∧ i ≤ (l0.length : Int) ∧ Aside0 (q21.l0 kq i l0 = some r) ∧ Aside0 (Below w.heap.size w wr)) (fun v3 _ => l0.length - (intOf v3).toNat)
  case atStart => exact ⟨0, k, rfl, by omega, by omega, H0, ⟨Below.refl _ _⟩⟩
  case round =>
   obtain ⟨i, kq, rfl, hi0, hi1, HK, HB⟩ := hrel
   cases kq with
   | zero => exact absurd HK.out (by simp [q21.l0])
   | succ kq =>
    by_cases hlt : i < (l0.length : Int)
    ·have hk := HK.out
     rw [q21.l0, if_pos hlt] at hk
     obtain ⟨t, ht, hk⟩ := Option.bind_eq_some_iff.mp hk
     obtain ⟨ad, A3, c3, A4, c4, e1, hx0, hx1, hx2, hx3, hx4, hl3, hi3, hl4, hi4⟩ := at_T86 HR0.out i hi0 hlt
     cases e1
     generalize hX : rd_T86 l0 i = X at hx0 hx1 hx2 hx3 hx4 hl3 hi3 hl4 hi4 ht
     generalize hP : ad.add (i.toNat * 5) = P at hx0 hx1 hx2 hx3 hx4
     obtain ⟨g, o, sp⟩ := P
     have hsp : sp = none := by
      unfold World.cell? at hx0
      split at hx0
      ·by_cases hs : sp.isSome
       ·simp [hs] at hx0
       ·simpa using hs
      ·cases hx0
     subst hsp
     have HI : Aside0 (InS86 w w g o X.f0 X.f1 X.f2 X.f3 X.f4) := ⟨A3, c3, A4, c4, ⟨hx0, hx1, hx2, hx3, hx4⟩, trivial, ⟨hi3, hl3⟩, ⟨hi4, hl4⟩⟩
     have HT := Am ht
     have HK2 := Am hk
     have HPP := Am hP
     clear hx0 hx1 hx2 hx3 hx4 hl3 hi3 hl4 hi4 ht hk hX hP HK
     go_wp2_with fail
     rw [HPP.out]
     refine (q1v.callsI kq g X.f0 X.f1 X.f2 X.f3 X.f4 t.1 t.2.1 t.2.2.1 t.2.2.2 w _ (HI.out.below HB.out) HB.out HT.out).mono ?_
     rintro e w' ⟨rfl, _, hb, _⟩
     have hk := HK2.out
     have HB2 := Am hb
     clear hb HB
     by_cases ht0 : t.1 = 0
     ·rw [if_pos ht0] at hk
      have HK3 := Am hk
      rw [ht0]
      clear hk ht0
      go_wp2_with fail
      go_roundw
      case rel => exact ⟨i + 1, kq, rfl, by omega, by omega, HK3, HB2⟩
      case measure => simp [intOf]; omega
     ·rw [if_neg ht0] at hk
      injection hk with hk
      subst hk
      go_wp2_with fail
      go_ret
      exact ⟨rfl, HB2.out⟩
    ·have hk := HK.out
     rw [q21.l0, if_neg hlt] at hk
     injection hk with hk
     subst hk
     go_wp2_with fail
     go_ret
     exact ⟨rfl, HB.out⟩
end Go.Proofs.YtafhjhdohclchaaGreatDoor.G
namespace Go.Proofs.YtafhjhdohclchaaGreatDoor.G
open Go.RowKit Go.Proofs.YtafhjhdohclchaaGreatDoorW.PrintWords Go.Proofs.YtafhjhdohclchaaGreatDoorW.PrintLast Go.Proofs.YtafhjhdohclchaaGreatDoorW.PrintMore
attribute [local go_sem] min2_int min_two
attribute [local go_sem high] str_leq
attribute [local go_sem] binOp_string_geq
mutual
def q20.l0 : Nat → List (S86) → Int → Int → Int → Option (Int)
 | 0, _, _, _, _ => none
 | k + 1, x0, x1, x5, x6 => if x6 < (x0.length : Int) then (q20.l1 k x0 x1 x5 x6 0) else (some x5)
def q20.l1 : Nat → List (S86) → Int → Int → Int → Int → Option (Int)
 | 0, _, _, _, _, _ => none
 | k + 1, x0, x1, x5, x6, x7 => if 0 ≤ x6 then (if x6 < (x0.length : Int) then (if x7 < (((rd_T86 x0 x6).f3).length : Int) then (if 0 ≤ x7 then (if (rd ((rd_T86 x0 x6).f3) x7) = x1 then (q20.l1 k x0 x1 (wrap64 (x5 + 1)) x6 (wrap64 (x7 + 1))) else (q20.l1 k x0 x1 x5 x6 (wrap64 (x7 + 1)))) else (none)) else (q20.l0 k x0 x1 x5 (wrap64 (x6 + 1)))) else (none)) else (none)
end
def q20.f (k : Nat) (l0 : List (S86)) (a1 : Int) : Option (Int) := q20.l0 k l0 a1 0 0
theorem q20.mono_l : ∀ k, (∀ y0 y1 y2 y3, LeO (q20.l0 k y0 y1 y2 y3) (q20.l0 (k + 1) y0 y1 y2 y3)) ∧ (∀ y0 y1 y2 y3 y4, LeO (q20.l1 k y0 y1 y2 y3 y4) (q20.l1 (k + 1) y0 y1 y2 y3 y4))
 | 0 => ⟨fun _ _ _ _ r h => by simp [q20.l0] at h, fun _ _ _ _ _ r h => by simp [q20.l1] at h⟩
 | k + 1 => by
  obtain ⟨ih0, ih1⟩ := q20.mono_l k
  refine ⟨?_, ?_⟩
  ·intro y0 y1 y2 y3
   unfold q20.l0
   repeat' first | (with_reducible exact ih1 _ _ _ _ _) | (with_reducible exact LeO.refl _) | (with_reducible refine LeO.ite ?_ ?_)
  ·intro y0 y1 y2 y3 y4
   unfold q20.l1
   repeat' first | (with_reducible exact ih0 _ _ _ _) | (with_reducible exact ih1 _ _ _ _ _) | (with_reducible exact LeO.refl _) | (with_reducible refine LeO.ite ?_ ?_)
theorem q20.mono : ∀ a0 a1 k, LeO (q20.f k a0 a1) (q20.f (k + 1) a0 a1) := by
 intro a0 a1 k
 obtain ⟨ih0, ih1⟩ := q20.mono_l k
 unfold q20.f
 repeat' (with_reducible exact ih0 _ _ _ _)
set_option maxHeartbeats 8000000 in
set_option maxRecDepth 100000 in
theorem q20.calls (k : Nat) (A0 : Option Addr) (c0 : Nat) (l0 : List (S86)) (a1 : Int) (r : Int) (w : World) (hr0 : Kd.C k86 w A0 l0.length l0) (hc0 : l0.length ≤ c0) (h : q20.f k l0 a1 = some r) :
  Calls Tryz.prog 244 #[.slice A0 l0.length c0, .int .i64 a1] w fun e w' => e = .returned (.int .i64 r) ∧ Drawn0 w w' := by
 have HR0 := Am hr0
 have HC0 := Am hc0
 clear hr0 hc0
 have H : (q20.l0 k l0 a1 0 0) = some r := h
 clear h
 have H' := Am H
 clear H
 go_enter Tryz.func244, Tryz.ntmps244
 go_wp2
 go_loopg [5, 6] k (fun kq v5 v6 w' => ∃ (x5_1 : Int) (x6_1 : Int), v5 = .int .i64 x5_1 ∧ v6 = .int .i64 x6_1 ∧ Aside0 (q20.l0 kq l0 a1 x5_1 x6_1 = some r) ∧ Aside0 (kq ≤ k) ∧ Drawn0 w w')
 case atStart => exact ⟨(0), (0), (by rfl), (by rfl), H', ⟨Nat.le_refl _⟩, by repeat (exact Drawn0.refl _)⟩
 case round =>
  clear H'
  obtain ⟨x5_1, x6_1, rfl, rfl, HA, HK1, ⟨m1, rfl⟩⟩ := hrel
  cases gk with
  | zero => exact absurd HA.out (by simp [q20.l0])
  | succ k1 =>
   have H := HA.out
   clear HA
   simp only [q20.l0] at H
   by_cases c3 : x6_1 < (l0.length : Int)
   ·rw [if_pos c3] at H
    have c3b0 : decide (x6_1 < (l0.length : Int)) = true := decide_eq_true c3
    clear c3
    have H' := Am H
    clear H
    go_wp2
    go_loopg [5, 7] k1 (fun kq v5 v7 w' => ∃ (x5_2 : Int) (x7_2 : Int), v5 = .int .i64 x5_2 ∧ v7 = .int .i64 x7_2 ∧ Aside0 (q20.l1 kq l0 a1 x5_2 x6_1 x7_2 = some r) ∧ Aside0 (kq ≤ k1) ∧ Drawn0 w w')
    case atStart => exact ⟨(x5_1), (0), (by rfl), (by rfl), H', ⟨Nat.le_refl _⟩, by repeat (first | exact Drawn0.refl _ | apply Drawn0.step)⟩
    case round =>
     clear H'
     try clear c3b0
     obtain ⟨x5_2, x7_2, rfl, rfl, HA, HK2, ⟨m2, rfl⟩⟩ := hrel
     cases gk with
     | zero => exact absurd HA.out (by simp [q20.l1])
     | succ k2 =>
      have H := HA.out
      clear HA
      simp only [q20.l1] at H
      replace H := ino H
      obtain ⟨c4, H⟩ := H
      have c4b0 : decide (0 ≤ x6_1) = true := decide_eq_true c4
      clear c4
      replace H := ino H
      obtain ⟨c5, H⟩ := H
      have c5b0 : decide (x6_1 < (l0.length : Int)) = true := decide_eq_true c5
      clear c5
      by_cases c6 : x7_2 < (((rd_T86 l0 x6_1).f3).length : Int)
      ·rw [if_pos c6] at H
       have c6b0 : decide (x7_2 < (((rd_T86 l0 x6_1).f3).length : Int)) = true := decide_eq_true c6
       clear c6
       replace H := ino H
       obtain ⟨c7, H⟩ := H
       have c7b0 : decide (0 ≤ x7_2) = true := decide_eq_true c7
       clear c7
       by_cases c8 : (rd ((rd_T86 l0 x6_1).f3) x7_2) = a1
       ·rw [if_pos c8] at H
        have c8b0 : ((rd ((rd_T86 l0 x6_1).f3) x7_2) == a1) = true := beq_iff_eq.mpr c8
        have c8b1 : ((rd ((rd_T86 l0 x6_1).f3) x7_2) != a1) = false := bne_eq_false_iff_eq.mpr c8
        clear c8
        have H' := Am H
        clear H
        have p653 : 0 ≤ (x6_1 : Int) := od (by assumption)
        have q653 : x6_1 < (l0.length : Int) := od (by assumption)
        obtain ⟨ad653, A653_3, c653_3, A653_4, c653_4, e653, hx653_0, hx653_1, hx653_2, hx653_3, hx653_4, hl653_3, hi653_3, hl653_4, hi653_4⟩ := at_T86 HR0.out x6_1 p653 q653
        cases e653
        have HR653_3 := Am hi653_3
        have HC653_3 := Am hl653_3
        clear hi653_3 hl653_3
        have HR653_4 := Am hi653_4
        have HC653_4 := Am hl653_4
        clear hi653_4 hl653_4
        replace p653 := eq_true p653
        replace q653 := eq_true q653
        have p654 : 0 ≤ (x6_1 : Int) := od (by assumption)
        have q654 : x6_1 < (l0.length : Int) := od (by assumption)
        obtain ⟨ad654, A654_3, c654_3, A654_4, c654_4, e654, hx654_0, hx654_1, hx654_2, hx654_3, hx654_4, hl654_3, hi654_3, hl654_4, hi654_4⟩ := at_T86 HR0.out x6_1 p654 q654
        obtain rfl : ad653 = ad654 := (by injection e654)
        have HR654_3 := Am hi654_3
        have HC654_3 := Am hl654_3
        clear hi654_3 hl654_3
        have HR654_4 := Am hi654_4
        have HC654_4 := Am hl654_4
        clear hi654_4 hl654_4
        replace p654 := eq_true p654
        replace q654 := eq_true q654
        have ea_ := Option.some.inj (hx653_3.symm.trans hx654_3)
        injection ea_ with ea_ en_ ec_
        subst ea_
        subst ec_
        clear en_
        have ea_ := Option.some.inj (hx653_4.symm.trans hx654_4)
        injection ea_ with ea_ en_ ec_
        subst ea_
        subst ec_
        clear en_
        have p655 : 0 ≤ (x7_2 : Int) := od (by assumption)
        have q655 : x7_2 < (((rd_T86 l0 x6_1).f3).length : Int) := od (by assumption)
        obtain ⟨ad655, e655, hx655_0⟩ := Kd.at_int HR654_3.out x7_2 p655 q655
        cases e655
        replace p655 := eq_true p655
        replace q655 := eq_true q655
        go_wp2
        go_roundg k2
        case measure => have := HK1.out; have := HK2.out; omega
        case rel => exact ⟨(wrap64 (x5_2 + 1)), (wrap64 (x7_2 + 1)), (by rfl), (by rfl), H', ⟨by have := HK1.out; have := HK2.out; omega⟩, by repeat (first | exact Drawn0.refl _ | apply Drawn0.step)⟩
       ·rw [if_neg c8] at H
        have c8b0 : ((rd ((rd_T86 l0 x6_1).f3) x7_2) == a1) = false := beq_eq_false_iff_ne.mpr c8
        have c8b1 : ((rd ((rd_T86 l0 x6_1).f3) x7_2) != a1) = true := bne_iff_ne.mpr c8
        have H' := Am H
        clear H
        have p653 : 0 ≤ (x6_1 : Int) := od (by assumption)
        have q653 : x6_1 < (l0.length : Int) := od (by assumption)
        obtain ⟨ad653, A653_3, c653_3, A653_4, c653_4, e653, hx653_0, hx653_1, hx653_2, hx653_3, hx653_4, hl653_3, hi653_3, hl653_4, hi653_4⟩ := at_T86 HR0.out x6_1 p653 q653
        cases e653
        have HR653_3 := Am hi653_3
        have HC653_3 := Am hl653_3
        clear hi653_3 hl653_3
        have HR653_4 := Am hi653_4
        have HC653_4 := Am hl653_4
        clear hi653_4 hl653_4
        replace p653 := eq_true p653
        replace q653 := eq_true q653
        have p654 : 0 ≤ (x6_1 : Int) := od (by assumption)
        have q654 : x6_1 < (l0.length : Int) := od (by assumption)
        obtain ⟨ad654, A654_3, c654_3, A654_4, c654_4, e654, hx654_0, hx654_1, hx654_2, hx654_3, hx654_4, hl654_3, hi654_3, hl654_4, hi654_4⟩ := at_T86 HR0.out x6_1 p654 q654
        obtain rfl : ad653 = ad654 := (by injection e654)
        have HR654_3 := Am hi654_3
        have HC654_3 := Am hl654_3
        clear hi654_3 hl654_3
        have HR654_4 := Am hi654_4
        have HC654_4 := Am hl654_4
        clear hi654_4 hl654_4
        replace p654 := eq_true p654
        replace q654 := eq_true q654
        have ea_ := Option.some.inj (hx653_3.symm.trans hx654_3)
        injection ea_ with ea_ en_ ec_
        subst ea_
        subst ec_
        clear en_
        have ea_ := Option.some.inj (hx653_4.symm.trans hx654_4)
        injection ea_ with ea_ en_ ec_
        subst ea_
        subst ec_
        clear en_
        have p655 : 0 ≤ (x7_2 : Int) := od (by assumption)
        have q655 : x7_2 < (((rd_T86 l0 x6_1).f3).length : Int) := od (by assumption)
        obtain ⟨ad655, e655, hx655_0⟩ := Kd.at_int HR654_3.out x7_2 p655 q655
        cases e655
        replace p655 := eq_true p655
        replace q655 := eq_true q655
        go_wp2
        go_roundg k2
        case measure => have := HK1.out; have := HK2.out; omega
        case rel => exact ⟨(x5_2), (wrap64 (x7_2 + 1)), (by rfl), (by rfl), H', ⟨by have := HK1.out; have := HK2.out; omega⟩, by repeat (first | exact Drawn0.refl _ | apply Drawn0.step)⟩
      ·rw [if_neg c6] at H
       have c6b0 : decide (x7_2 < (((rd_T86 l0 x6_1).f3).length : Int)) = false := decide_eq_false c6
       clear c6
       have H' := Am H
       clear H
       have p653 : 0 ≤ (x6_1 : Int) := od (by assumption)
       have q653 : x6_1 < (l0.length : Int) := od (by assumption)
       obtain ⟨ad653, A653_3, c653_3, A653_4, c653_4, e653, hx653_0, hx653_1, hx653_2, hx653_3, hx653_4, hl653_3, hi653_3, hl653_4, hi653_4⟩ := at_T86 HR0.out x6_1 p653 q653
       cases e653
       have HR653_3 := Am hi653_3
       have HC653_3 := Am hl653_3
       clear hi653_3 hl653_3
       have HR653_4 := Am hi653_4
       have HC653_4 := Am hl653_4
       clear hi653_4 hl653_4
       replace p653 := eq_true p653
       replace q653 := eq_true q653
       go_wp2
       go_roundg k2
       case measure => have := HK1.out; have := HK2.out; omega
       case rel => exact ⟨(x5_2), (wrap64 (x6_1 + 1)), (by rfl), (by rfl), H', ⟨by have := HK1.out; have := HK2.out; omega⟩, by repeat (first | exact Drawn0.refl _ | apply Drawn0.step)⟩
   ·rw [if_neg c3] at H
    have c3b0 : decide (x6_1 < (l0.length : Int)) = false := decide_eq_false c3
    clear c3
    obtain rfl := Option.some.inj H
    go_wp2
    go_ret
    exact ⟨by rfl, by repeat (first | exact Drawn0.refl _ | apply Drawn0.step)⟩
end Go.Proofs.YtafhjhdohclchaaGreatDoor.G
namespace Go.Proofs.YtafhjhdohclchaaGreatDoor.G
open Go.RowKit Go.Proofs.YtafhjhdohclchaaGreatDoorW.PrintWords Go.Proofs.YtafhjhdohclchaaGreatDoorW.PrintLast Go.Proofs.YtafhjhdohclchaaGreatDoorW.PrintMore
attribute [local go_sem] min2_int min_two
attribute [local go_sem high] str_leq
attribute [local go_sem] binOp_string_geq
def q23.l0 : Nat → List (S86) → List Int → Bool → Int → Option (List Int × Bool)
 | 0, _, _, _, _ => none
 | k + 1, x0, x4, x5, x6 => if x6 < 20 then ((q20.f k x0 x6).bind fun t659 => (if t659 > 0 then (if x4.length < 17592186044416 then ((some (x4 ++ [x6] : List Int)).bind fun y660 => (if x5 = true then (q23.l0 k x0 y660 (decide (t659 ≤ 1)) (wrap64 (x6 + 1))) else (q23.l0 k x0 y660 false (wrap64 (x6 + 1))))) else (none)) else (if x5 = true then (q23.l0 k x0 x4 (decide (t659 ≤ 1)) (wrap64 (x6 + 1))) else (q23.l0 k x0 x4 false (wrap64 (x6 + 1)))))) else (some (x4, x5))
def q23.f (k : Nat) (l0 : List (S86)) : Option (List Int × Bool) := q23.l0 k l0 (([] : List Int)) true 0
theorem q23.mono_l : ∀ k, (∀ y0 y1 y2 y3, LeO (q23.l0 k y0 y1 y2 y3) (q23.l0 (k + 1) y0 y1 y2 y3))
 | 0 => fun _ _ _ _ r h => by simp [q23.l0] at h
 | k + 1 => by
  have ih0 := q23.mono_l k
  ·intro y0 y1 y2 y3
   unfold q23.l0
   repeat' first | (with_reducible exact ih0 _ _ _ _) | (with_reducible exact q20.mono _ _ _) | (with_reducible exact LeO.refl _) | (with_reducible refine LeO.ite ?_ ?_) | (with_reducible refine LeO.bind ?_ (fun _ => ?_))
theorem q23.mono : ∀ a0 k, LeO (q23.f k a0) (q23.f (k + 1) a0) := by
 intro a0 k
 have ih0 := q23.mono_l k
 unfold q23.f
 repeat' (with_reducible exact ih0 _ _ _ _)
set_option maxHeartbeats 8000000 in
set_option maxRecDepth 100000 in
theorem q23.calls (k : Nat) (A0 : Option Addr) (c0 : Nat) (l0 : List (S86)) (r1 : List Int) (r2 : Bool) (w : World) (hr0 : Kd.C k86 w A0 l0.length l0) (hc0 : l0.length ≤ c0) (h : q23.f k l0 = some (r1, r2)) :
  Calls Tryz.prog 195 #[.slice A0 l0.length c0] w fun e w' => ∃ v0_ : Value, e = .returned (.tuple #[v0_, .bool r2]) ∧ Kd.R (Kd.int .i64) 2 w' w.heap.size (fun _ => True) v0_ r1 ∧ Below w.heap.size w w' := by
 have HR0 := Am hr0
 have HC0 := Am hc0
 clear hr0 hc0
 have HB := Am (Below.refl w.heap.size w)
 have H : (q23.l0 k l0 (([] : List Int)) true 0) = some (r1, r2) := h
 clear h
 obtain ⟨y656, hy656⟩ : ∃ y_ : List Int, y_ = (([] : List Int)) := ⟨_, rfl⟩
 replace H : (q23.l0 k l0 y656 true 0) = some (r1, r2) := by (rw [hy656]; with_reducible exact H)
 have Ny656 := Am hy656
 clear hy656
 have H' := Am H
 clear H
 go_enter Tryz.func195, Tryz.ntmps195
 go_wp2_with (((with_reducible refine gate_dst (N := 8) rfl ?_); refine Kd.R_lit (Kd.int .i64) _ 2 ?hg (N := 8) ?hd (xs := ([] : List Int)) (inner := []) (ok := fun _ => True) (okp := fun _ => True) ?hr ?hp (fun _ hk => hk) trivial (Below.refl _ _) (Nat.le_refl _) (by simp) ?_; (case hd => rfl); (case hg => rfl); (case hr => (go_simp; done)); (case hp => exact (Reps.none _ _)); intro v657 w2 ho3 hb hg_ hnew_; clear hg_ hnew_; (rw [← Ny656.out] at ho3); have HO658 := Am (Kd.R_lower ho3 (below_size HB.out)); replace HB := Am (below_step HB.out hb); clear hb ho3))
 go_loopg [4, 5, 6] k (fun kq v4 v5 v6 w' => ∃ (x4_1 : List Int) (x5_1 : Bool) (x6_1 : Int), v5 = .bool x5_1 ∧ v6 = .int .i64 x6_1 ∧ Aside0 (q23.l0 kq l0 x4_1 x5_1 x6_1 = some (r1, r2)) ∧ Aside0 (kq ≤ k) ∧ Aside0 (Kd.R (Kd.int .i64) 2 w' w.heap.size (fun _ => True) v4 x4_1) ∧ Aside0 (Below w.heap.size w w'))
 case atStart => exact ⟨(y656), (true), (0), (by rfl), (by rfl), H', ⟨Nat.le_refl _⟩, ⟨by exact HO658.out⟩, ⟨HB.out⟩⟩
 case round =>
  clear H'
  obtain ⟨x4_1, x5_1, x6_1, rfl, rfl, HA, HK1, HO_4, HB⟩ := hrel
  cases gk with
  | zero => exact absurd HA.out (by simp [q23.l0])
  | succ k1 =>
   have H := HA.out
   clear HA
   simp only [q23.l0] at H
   by_cases c4 : x6_1 < 20
   ·rw [if_pos c4] at H
    have c4b0 : decide (x6_1 < 20) = true := decide_eq_true c4
    clear c4
    replace H := zbs H
    obtain ⟨t659, A5, H⟩ := H
    by_cases c6 : t659 > 0
    ·rw [if_pos c6] at H
     have c6b0 : decide (0 < t659) = true := decide_eq_true c6
     clear c6
     replace H := ino H
     obtain ⟨c7, H⟩ := H
     have LMc7 := Am c7
     clear c7
     obtain ⟨y660, hy660⟩ : ∃ y_ : List Int, y_ = (x4_1 ++ [x6_1]) := ⟨_, rfl⟩
     replace H : (if x5_1 = true then (q23.l0 k1 l0 y660 (decide (t659 ≤ 1)) (wrap64 (x6_1 + 1))) else (q23.l0 k1 l0 y660 false (wrap64 (x6_1 + 1)))) = some (r1, r2) := by (have H2_ := (Option.bind_some _ _).symm.trans H; rw [hy660]; with_reducible exact H2_)
     have Ny660 := Am hy660
     clear hy660
     by_cases c8 : x5_1 = true
     ·subst c8
      have H1 : (q23.l0 k1 l0 y660 (decide (t659 ≤ 1)) (wrap64 (x6_1 + 1))) = some (r1, r2) := by rw [if_pos rfl] at H; exact H
      clear H
      have H := H1
      clear H1
      have H' := Am H
      clear H
      go_wp2_with (first | ((with_reducible refine gate_callee (f := 244) rfl ?_); refine goesL_ (some 15) rfl rfl Tryz.func244 (by kernel_rfl) rfl #[.slice A0 l0.length c0, .int .i64 x6_1] rfl (by (try simp only [List.map_toArray, List.map_cons, List.map_nil]); rfl) ?_; (with_reducible refine (q20.calls k1 _ _ l0 x6_1 t659 _ ?side1 ?side2 A5.out).mono ?_); (case side1 => repeat (exact (Kd.C_below HR0.out HB.out))); (case side2 => exact HC0.out); rintro e w' ⟨rfl, ⟨nd, rfl⟩⟩; refine ⟨_, rfl, ?_⟩) | ((with_reducible refine gate_builtin (b := .append) (xs := #[.tmp 18, .tmp 20]) rfl ?_); at_builtin; refine Kd.R_append (Kd.int .i64) (w0 := w) w.heap.size rfl (.tmp 18) (.tmp 20) 38 2 (.int .i64 0) 8 rfl Tryz.underlying38 info2 rfl (by decide) (by omega) u4 x4_1 x6_1 [.int .i64 x6_1] (fun _ => True) (fun _ => False) rfl rfl ?aP (fun _ hk => hk.elim) ?aF ?aO ?aB ?aS ?aL ?_; (case aP => exact rfl); (case aB => exact (by repeat ((with_reducible first | exact HB.out | apply pw_below_drewN)))); (case aF => exact (fun _ _ => trivial)); (case aO => exact (by (with_reducible repeat (apply Kd.R_drewN)); exact HO_4.out)); (case aS => exact (below_size (by repeat ((with_reducible first | exact HB.out | apply pw_below_drewN))))); (case aL => have := LMc7.out; omega); intro v661 w9 ho hb hg hat; rw [← Ny660.out] at ho; replace HB := Am hb; have HO662 := Am ho; clear HO_4; clear ho hb hg hat))
      go_roundg k1
      case measure => have := HK1.out; omega
      case rel => exact ⟨(y660), (decide (t659 ≤ 1)), (wrap64 (x6_1 + 1)), (by rfl), (by rfl), H', ⟨by have := HK1.out; omega⟩, ⟨by exact HO662.out⟩, ⟨HB.out⟩⟩
     ·replace c8 := Bool.eq_false_iff.mpr c8
      subst c8
      have H1 : (q23.l0 k1 l0 y660 false (wrap64 (x6_1 + 1))) = some (r1, r2) := by rw [if_neg (show ¬ (false = true) by decide)] at H; exact H
      clear H
      have H := H1
      clear H1
      have H' := Am H
      clear H
      go_wp2_with (first | ((with_reducible refine gate_callee (f := 244) rfl ?_); refine goesL_ (some 15) rfl rfl Tryz.func244 (by kernel_rfl) rfl #[.slice A0 l0.length c0, .int .i64 x6_1] rfl (by (try simp only [List.map_toArray, List.map_cons, List.map_nil]); rfl) ?_; (with_reducible refine (q20.calls k1 _ _ l0 x6_1 t659 _ ?side1 ?side2 A5.out).mono ?_); (case side1 => repeat (exact (Kd.C_below HR0.out HB.out))); (case side2 => exact HC0.out); rintro e w' ⟨rfl, ⟨nd, rfl⟩⟩; refine ⟨_, rfl, ?_⟩) | ((with_reducible refine gate_builtin (b := .append) (xs := #[.tmp 18, .tmp 20]) rfl ?_); at_builtin; refine Kd.R_append (Kd.int .i64) (w0 := w) w.heap.size rfl (.tmp 18) (.tmp 20) 38 2 (.int .i64 0) 8 rfl Tryz.underlying38 info2 rfl (by decide) (by omega) u4 x4_1 x6_1 [.int .i64 x6_1] (fun _ => True) (fun _ => False) rfl rfl ?aP (fun _ hk => hk.elim) ?aF ?aO ?aB ?aS ?aL ?_; (case aP => exact rfl); (case aB => exact (by repeat ((with_reducible first | exact HB.out | apply pw_below_drewN)))); (case aF => exact (fun _ _ => trivial)); (case aO => exact (by (with_reducible repeat (apply Kd.R_drewN)); exact HO_4.out)); (case aS => exact (below_size (by repeat ((with_reducible first | exact HB.out | apply pw_below_drewN))))); (case aL => have := LMc7.out; omega); intro v661 w10 ho hb hg hat; rw [← Ny660.out] at ho; replace HB := Am hb; have HO662 := Am ho; clear HO_4; clear ho hb hg hat))
      go_roundg k1
      case measure => have := HK1.out; omega
      case rel => exact ⟨(y660), (false), (wrap64 (x6_1 + 1)), (by rfl), (by rfl), H', ⟨by have := HK1.out; omega⟩, ⟨by exact HO662.out⟩, ⟨HB.out⟩⟩
    ·rw [if_neg c6] at H
     have c6b0 : decide (0 < t659) = false := decide_eq_false c6
     clear c6
     by_cases c11 : x5_1 = true
     ·subst c11
      have H1 : (q23.l0 k1 l0 x4_1 (decide (t659 ≤ 1)) (wrap64 (x6_1 + 1))) = some (r1, r2) := by rw [if_pos rfl] at H; exact H
      clear H
      have H := H1
      clear H1
      have H' := Am H
      clear H
      go_wp2_with (((with_reducible refine gate_callee (f := 244) rfl ?_); refine goesL_ (some 15) rfl rfl Tryz.func244 (by kernel_rfl) rfl #[.slice A0 l0.length c0, .int .i64 x6_1] rfl (by (try simp only [List.map_toArray, List.map_cons, List.map_nil]); rfl) ?_; (with_reducible refine (q20.calls k1 _ _ l0 x6_1 t659 _ ?side1 ?side2 A5.out).mono ?_); (case side1 => repeat (exact (Kd.C_below HR0.out HB.out))); (case side2 => exact HC0.out); rintro e w' ⟨rfl, ⟨nd, rfl⟩⟩; refine ⟨_, rfl, ?_⟩))
      go_roundg k1
      case measure => have := HK1.out; omega
      case rel => exact ⟨(x4_1), (decide (t659 ≤ 1)), (wrap64 (x6_1 + 1)), (by rfl), (by rfl), H', ⟨by have := HK1.out; omega⟩, ⟨by (with_reducible repeat (apply Kd.R_drewN)); exact HO_4.out⟩, ⟨by repeat ((with_reducible first | exact HB.out | apply pw_below_drewN))⟩⟩
     ·replace c11 := Bool.eq_false_iff.mpr c11
      subst c11
      have H1 : (q23.l0 k1 l0 x4_1 false (wrap64 (x6_1 + 1))) = some (r1, r2) := by rw [if_neg (show ¬ (false = true) by decide)] at H; exact H
      clear H
      have H := H1
      clear H1
      have H' := Am H
      clear H
      go_wp2_with (((with_reducible refine gate_callee (f := 244) rfl ?_); refine goesL_ (some 15) rfl rfl Tryz.func244 (by kernel_rfl) rfl #[.slice A0 l0.length c0, .int .i64 x6_1] rfl (by (try simp only [List.map_toArray, List.map_cons, List.map_nil]); rfl) ?_; (with_reducible refine (q20.calls k1 _ _ l0 x6_1 t659 _ ?side1 ?side2 A5.out).mono ?_); (case side1 => repeat (exact (Kd.C_below HR0.out HB.out))); (case side2 => exact HC0.out); rintro e w' ⟨rfl, ⟨nd, rfl⟩⟩; refine ⟨_, rfl, ?_⟩))
      go_roundg k1
      case measure => have := HK1.out; omega
      case rel => exact ⟨(x4_1), (false), (wrap64 (x6_1 + 1)), (by rfl), (by rfl), H', ⟨by have := HK1.out; omega⟩, ⟨by (with_reducible repeat (apply Kd.R_drewN)); exact HO_4.out⟩, ⟨by repeat ((with_reducible first | exact HB.out | apply pw_below_drewN))⟩⟩
   ·rw [if_neg c4] at H
    have c4b0 : decide (x6_1 < 20) = false := decide_eq_false c4
    clear c4
    simp only [Option.some.injEq, Prod.mk.injEq] at H
    obtain ⟨rfl, rfl⟩ := H
    go_wp2
    go_ret2
    exact ⟨_, by rfl, by exact HO_4.out, HB.out⟩
end Go.Proofs.YtafhjhdohclchaaGreatDoor.G
namespace Go.Proofs.YtafhjhdohclchaaGreatDoor.G
open Go.RowKit Go.Proofs.YtafhjhdohclchaaGreatDoorW.PrintWords Go.Proofs.YtafhjhdohclchaaGreatDoorW.PrintLast Go.Proofs.YtafhjhdohclchaaGreatDoorW.PrintMore
attribute [local go_sem] min2_int min_two
attribute [local go_sem high] str_leq
attribute [local go_sem] binOp_string_geq
mutual
def q24.j0 : Nat → Bool → List (S86) → List (List Int) → Option (Int)
 | 0, _, _, _ => none
 | k + 1, x41, x1000, x1001 => if x41 = true then (some 1) else (q24.l0 k 0 x1000 x1001)
def q24.l0 : Nat → Int → List (S86) → List (List Int) → Option (Int)
 | 0, _, _, _ => none
 | k + 1, x4, x1000, x1001 => if x4 < (x1001.length : Int) then (if 0 ≤ x4 then (if ((rd_L1 x1001 x4).length : Int) > 8 then (some 2) else (q24.l0 k (wrap64 (x4 + 1)) x1000 x1001)) else (none)) else ((q23.f k x1000).bind fun bt666 => (if bt666.2 = true then (q24.l1 k 0 x1000 x1001) else (some 7)))
def q24.l1 : Nat → Int → List (S86) → List (List Int) → Option (Int)
 | 0, _, _, _ => none
 | k + 1, x7, x1000, x1001 => if x7 < (x1000.length : Int) then (q24.l2 k x7 0 x1000 x1001) else (some 0)
def q24.l2 : Nat → Int → Int → List (S86) → List (List Int) → Option (Int)
 | 0, _, _, _, _ => none
 | k + 1, x7, x8, x1000, x1001 => if 0 ≤ x7 then (if x7 < (x1000.length : Int) then (if x8 < (((rd_T86 x1000 x7).f4).length : Int) then (if 0 ≤ x8 then (if ((rd_T143 ((rd_T86 x1000 x7).f4) x8).f1) ≥ (x1000.length : Int) then (some 4) else (if 0 ≤ ((rd_T143 ((rd_T86 x1000 x7).f4) x8).f1) then (if ((rd_T143 ((rd_T86 x1000 x7).f4) x8).f1) < (x1000.length : Int) then (if ((rd_T86 x1000 ((rd_T143 ((rd_T86 x1000 x7).f4) x8).f1)).f0) = 0 then (some 4) else (q24.l2 k x7 (wrap64 (x8 + 1)) x1000 x1001)) else (none)) else (none))) else (none)) else (q24.l1 k (wrap64 (x7 + 1)) x1000 x1001)) else (none)) else (none)
end
def q24.f (k : Nat) (s0_0 : List (S86)) (s0_1 : List (List Int)) : Option (Int) := (q21.f k s0_0).bind fun t663 => (if t663 = 0 then (if (s0_0.length : Int) = 0 then (q24.j0 k true s0_0 s0_1) else (if 0 < (s0_0.length : Int) then (if ((rd_T86 s0_0 0).f0) = 2 then (q24.j0 k ((s0_1.length : Int) != 20) s0_0 s0_1) else (q24.j0 k true s0_0 s0_1)) else (none))) else (some t663))
theorem q24.mono_l : ∀ k, (∀ y0 y1 y2, LeO (q24.j0 k y0 y1 y2) (q24.j0 (k + 1) y0 y1 y2)) ∧ (∀ y0 y1 y2, LeO (q24.l0 k y0 y1 y2) (q24.l0 (k + 1) y0 y1 y2)) ∧ (∀ y0 y1 y2, LeO (q24.l1 k y0 y1 y2) (q24.l1 (k + 1) y0 y1 y2)) ∧ (∀ y0 y1 y2 y3, LeO (q24.l2 k y0 y1 y2 y3) (q24.l2 (k + 1) y0 y1 y2 y3))
 | 0 => ⟨fun _ _ _ r h => by simp [q24.j0] at h, fun _ _ _ r h => by simp [q24.l0] at h, fun _ _ _ r h => by simp [q24.l1] at h, fun _ _ _ _ r h => by simp [q24.l2] at h⟩
 | k + 1 => by
  obtain ⟨ih0, ih1, ih2, ih3⟩ := q24.mono_l k
  refine ⟨?_, ?_, ?_, ?_⟩
  ·intro y0 y1 y2
   unfold q24.j0
   repeat' first | (with_reducible exact ih1 _ _ _) | (with_reducible exact LeO.refl _) | (with_reducible refine LeO.ite ?_ ?_)
  ·intro y0 y1 y2
   unfold q24.l0
   repeat' first | (with_reducible exact ih1 _ _ _) | (with_reducible exact ih2 _ _ _) | (with_reducible exact q23.mono _ _) | (with_reducible exact LeO.refl _) | (with_reducible refine LeO.ite ?_ ?_) | (with_reducible refine LeO.bind ?_ (fun _ => ?_))
  ·intro y0 y1 y2
   unfold q24.l1
   repeat' first | (with_reducible exact ih3 _ _ _ _) | (with_reducible exact LeO.refl _) | (with_reducible refine LeO.ite ?_ ?_)
  ·intro y0 y1 y2 y3
   unfold q24.l2
   repeat' first | (with_reducible exact ih2 _ _ _) | (with_reducible exact ih3 _ _ _ _) | (with_reducible exact LeO.refl _) | (with_reducible refine LeO.ite ?_ ?_)
theorem q24.mono : ∀ a0 a1 k, LeO (q24.f k a0 a1) (q24.f (k + 1) a0 a1) := by
 intro a0 a1 k
 obtain ⟨ih0, ih1, ih2, ih3⟩ := q24.mono_l k
 unfold q24.f
 repeat' first | (with_reducible exact ih0 _ _ _) | (with_reducible exact q21.mono _ _) | (with_reducible exact LeO.refl _) | (with_reducible refine LeO.ite ?_ ?_) | (with_reducible refine LeO.bind ?_ (fun _ => ?_))
set_option maxHeartbeats 8000000 in
set_option maxRecDepth 100000 in
theorem q24.calls (k : Nat) (g : Nat) (s0_0 : List (S86)) (s0_1 : List (List Int)) (r : Int) (w0 w : World) (hI : IsS28 w0 w g s0_0 s0_1) (hB : Below w0.heap.size w0 w) (h : q24.f k s0_0 s0_1 = some r) :
  Calls Tryz.prog 125 #[.pointer (some ⟨g, 0, none⟩)] w fun e w' => e = .returned (.int .i64 r) ∧ IsS28 w0 w' g s0_0 s0_1 ∧ Below w0.heap.size w0 w' ∧ KeepBut w w' g none := by
 have HI0 := Am hI
 have HK := Am (KeepBut.refl w g none)
 have HL := Am hB.size
 clear hI
 have HW0 := Am hB.size
 have HB := Am hB
 clear hB
 have H : ((q21.f k s0_0).bind fun t663 => (if t663 = 0 then (if (s0_0.length : Int) = 0 then (q24.j0 k true s0_0 s0_1) else (if 0 < (s0_0.length : Int) then (if ((rd_T86 s0_0 0).f0) = 2 then (q24.j0 k ((s0_1.length : Int) != 20) s0_0 s0_1) else (q24.j0 k true s0_0 s0_1)) else (none))) else (some t663))) = some r := h
 clear h
 replace H := zbs H
 obtain ⟨t663, A2, H⟩ := H
 by_cases c3 : t663 = 0
 ·rw [if_pos c3] at H
  have c3b0 : (t663 == 0) = true := beq_iff_eq.mpr c3
  have c3b1 : (t663 != 0) = false := bne_eq_false_iff_eq.mpr c3
  clear c3
  have HC4 := Am H
  clear H
  obtain ⟨ASz5_0, cSz5_0, ASz5_1, cSz5_1, HGz5, hgz5, HSz5_0, HSz5_1⟩ := HI0.out
  have hcz5_0 := cellS28_0 HGz5
  have hcz5_1 := cellS28_1 HGz5
  clear HGz5 hgz5
  go_enter Tryz.func125, Tryz.ntmps125
  go_upto_region 4 with (((with_reducible refine gate_callee (f := 194) rfl ?_); refine goesL_ (some 14) rfl rfl Tryz.func194 (by kernel_rfl) rfl #[.slice ASz5_0 s0_0.length cSz5_0] rfl (by (try simp only [List.map_toArray, List.map_cons, List.map_nil]); rfl) ?_; (with_reducible refine (q21.calls k _ _ s0_0 t663 _ ?side1 ?side2 A2.out).mono ?_); (case side1 => exact Kd.C_below HSz5_0.1 HB.out); (case side2 => exact HSz5_0.2); rintro e w6 ⟨rfl, hb⟩; refine ⟨_, rfl, ?_⟩; replace HI0 := Am (IsS28.below HI0.out hb); replace HK := Am (KeepBut.trans HK.out (KeepBut.of_below hb g none) (.inl rfl)); replace HB := Am (below_step HB.out hb); (try clear hb)))
  go_cut [41] (fun v41 wc => ∃ (kq : Nat) (x41_3 : Bool), v41 = .bool x41_3 ∧ Aside0 (q24.j0 kq x41_3 s0_0 s0_1 = some r) ∧ Aside0 (kq ≤ k) ∧ Aside0 (IsS28 w0 wc g s0_0 s0_1) ∧ Aside0 (KeepBut w wc g none) ∧ Aside0 (Below w0.heap.size w0 wc))
  case first =>
   have H := HC4.out
   clear HC4
   by_cases c7 : (s0_0.length : Int) = 0
   ·rw [if_pos c7] at H
    have c7b0 : ((s0_0.length : Int) == 0) = true := beq_iff_eq.mpr c7
    have c7b1 : ((s0_0.length : Int) != 0) = false := bne_eq_false_iff_eq.mpr c7
    clear c7
    have H' := Am H
    clear H
    obtain ⟨ASz8_0, cSz8_0, ASz8_1, cSz8_1, HGz8, hgz8, HSz8_0, HSz8_1⟩ := HI0.out
    have hcz8_0 := cellS28_0 HGz8
    have hcz8_1 := cellS28_1 HGz8
    clear HGz8 hgz8
    go_wp2
    go_meet
    case rel => exact ⟨_, (true), (by rfl), H', ⟨by omega⟩, ⟨HI0.out⟩, ⟨HK.out⟩, ⟨HB.out⟩⟩
   ·rw [if_neg c7] at H
    have c7b0 : ((s0_0.length : Int) == 0) = false := beq_eq_false_iff_ne.mpr c7
    have c7b1 : ((s0_0.length : Int) != 0) = true := bne_iff_ne.mpr c7
    have c7b2 : ¬ (s0_0 = []) := fun h_ => c7 (by rw [h_]; rfl)
    replace H := ino H
    obtain ⟨c9, H⟩ := H
    have c9b0 : decide (0 < (s0_0.length : Int)) = true := decide_eq_true c9
    have c9b1 : decide (0 < s0_0.length) = true := decide_eq_true (by omega)
    clear c9
    by_cases c10 : ((rd_T86 s0_0 0).f0) = 2
    ·rw [if_pos c10] at H
     have c10b0 : (((rd_T86 s0_0 0).f0) == 2) = true := beq_iff_eq.mpr c10
     have c10b1 : (((rd_T86 s0_0 0).f0) != 2) = false := bne_eq_false_iff_eq.mpr c10
     clear c10
     have H' := Am H
     clear H
     obtain ⟨ASz11_0, cSz11_0, ASz11_1, cSz11_1, HGz11, hgz11, HSz11_0, HSz11_1⟩ := HI0.out
     have hcz11_0 := cellS28_0 HGz11
     have hcz11_1 := cellS28_1 HGz11
     clear HGz11 hgz11
     have p664 : 0 ≤ (0 : Int) := (by omega)
     have q664 : 0 < (s0_0.length : Int) := od (by assumption)
     obtain ⟨ad664, A664_3, c664_3, A664_4, c664_4, e664, hx664_0, hx664_1, hx664_2, hx664_3, hx664_4, hl664_3, hi664_3, hl664_4, hi664_4⟩ := at_T86 HSz11_0.1 0 p664 q664
     cases e664
     have qi664 : (0 < s0_0.length) = True := eq_true (by omega)
     (try rw [show ((0 : Int)).toNat = 0 from rfl] at hx664_0)
     (try rw [show 0 * 5 = 0 from rfl] at hx664_0)
     (try rw [Addr.add_zero'] at hx664_0)
     (try rw [show ((0 : Int)).toNat = 0 from rfl] at hx664_1)
     (try rw [show 0 * 5 = 0 from rfl] at hx664_1)
     (try rw [Addr.add_zero'] at hx664_1)
     (try rw [show ((0 : Int)).toNat = 0 from rfl] at hx664_2)
     (try rw [show 0 * 5 = 0 from rfl] at hx664_2)
     (try rw [Addr.add_zero'] at hx664_2)
     (try rw [show ((0 : Int)).toNat = 0 from rfl] at hx664_3)
     (try rw [show 0 * 5 = 0 from rfl] at hx664_3)
     (try rw [Addr.add_zero'] at hx664_3)
     (try rw [show ((0 : Int)).toNat = 0 from rfl] at hx664_4)
     (try rw [show 0 * 5 = 0 from rfl] at hx664_4)
     (try rw [Addr.add_zero'] at hx664_4)
     replace hx664_0 := pcb HB.out hx664_0
     replace hx664_1 := pcb HB.out hx664_1
     replace hx664_2 := pcb HB.out hx664_2
     replace hx664_3 := pcb HB.out hx664_3
     replace hx664_4 := pcb HB.out hx664_4
     have HR664_3 := Am hi664_3
     have HC664_3 := Am hl664_3
     clear hi664_3 hl664_3
     have HR664_4 := Am hi664_4
     have HC664_4 := Am hl664_4
     clear hi664_4 hl664_4
     replace p664 := eq_true p664
     replace q664 := eq_true q664
     go_wp2
     go_meet
     case rel => exact ⟨_, (((s0_1.length : Int) != 20)), (by rfl), H', ⟨by omega⟩, ⟨HI0.out⟩, ⟨HK.out⟩, ⟨HB.out⟩⟩
    ·rw [if_neg c10] at H
     have c10b0 : (((rd_T86 s0_0 0).f0) == 2) = false := beq_eq_false_iff_ne.mpr c10
     have c10b1 : (((rd_T86 s0_0 0).f0) != 2) = true := bne_iff_ne.mpr c10
     have H' := Am H
     clear H
     obtain ⟨ASz12_0, cSz12_0, ASz12_1, cSz12_1, HGz12, hgz12, HSz12_0, HSz12_1⟩ := HI0.out
     have hcz12_0 := cellS28_0 HGz12
     have hcz12_1 := cellS28_1 HGz12
     clear HGz12 hgz12
     have p664 : 0 ≤ (0 : Int) := (by omega)
     have q664 : 0 < (s0_0.length : Int) := od (by assumption)
     obtain ⟨ad664, A664_3, c664_3, A664_4, c664_4, e664, hx664_0, hx664_1, hx664_2, hx664_3, hx664_4, hl664_3, hi664_3, hl664_4, hi664_4⟩ := at_T86 HSz12_0.1 0 p664 q664
     cases e664
     have qi664 : (0 < s0_0.length) = True := eq_true (by omega)
     (try rw [show ((0 : Int)).toNat = 0 from rfl] at hx664_0)
     (try rw [show 0 * 5 = 0 from rfl] at hx664_0)
     (try rw [Addr.add_zero'] at hx664_0)
     (try rw [show ((0 : Int)).toNat = 0 from rfl] at hx664_1)
     (try rw [show 0 * 5 = 0 from rfl] at hx664_1)
     (try rw [Addr.add_zero'] at hx664_1)
     (try rw [show ((0 : Int)).toNat = 0 from rfl] at hx664_2)
     (try rw [show 0 * 5 = 0 from rfl] at hx664_2)
     (try rw [Addr.add_zero'] at hx664_2)
     (try rw [show ((0 : Int)).toNat = 0 from rfl] at hx664_3)
     (try rw [show 0 * 5 = 0 from rfl] at hx664_3)
     (try rw [Addr.add_zero'] at hx664_3)
     (try rw [show ((0 : Int)).toNat = 0 from rfl] at hx664_4)
     (try rw [show 0 * 5 = 0 from rfl] at hx664_4)
     (try rw [Addr.add_zero'] at hx664_4)
     replace hx664_0 := pcb HB.out hx664_0
     replace hx664_1 := pcb HB.out hx664_1
     replace hx664_2 := pcb HB.out hx664_2
     replace hx664_3 := pcb HB.out hx664_3
     replace hx664_4 := pcb HB.out hx664_4
     have HR664_3 := Am hi664_3
     have HC664_3 := Am hl664_3
     clear hi664_3 hl664_3
     have HR664_4 := Am hi664_4
     have HC664_4 := Am hl664_4
     clear hi664_4 hl664_4
     replace p664 := eq_true p664
     replace q664 := eq_true q664
     go_wp2
     go_meet
     case rel => exact ⟨_, (true), (by rfl), H', ⟨by omega⟩, ⟨HI0.out⟩, ⟨HK.out⟩, ⟨HB.out⟩⟩
  case rest =>
   clear HC4
   try clear c3b0
   try clear c3b1
   try clear hcz5_0
   try clear hcz5_1
   obtain ⟨kq, x41_3, rfl, HA, HJ3, HI0, HK, HB⟩ := hcut
   cases kq with
   | zero => exact absurd HA.out (by simp [q24.j0])
   | succ kj3 =>
    have H := HA.out
    clear HA
    simp only [q24.j0] at H
    by_cases c13 : x41_3 = true
    ·subst c13
     have H1 : (some 1) = some r := by rw [if_pos rfl] at H; exact H
     clear H
     have H := H1
     clear H1
     obtain rfl := Option.some.inj H
     go_wp2
     go_ret
     exact ⟨by rfl, HI0.out, HB.out, HK.out⟩
    ·replace c13 := Bool.eq_false_iff.mpr c13
     subst c13
     have H1 : (q24.l0 kj3 0 s0_0 s0_1) = some r := by rw [if_neg (show ¬ (false = true) by decide)] at H; exact H
     clear H
     have H := H1
     clear H1
     have H' := Am H
     clear H
     go_wp2
     go_loopg [4] kj3 (fun kq v4 w' => ∃ (x4_2 : Int), v4 = .int .i64 x4_2 ∧ Aside0 (q24.l0 kq x4_2 s0_0 s0_1 = some r) ∧ Aside0 (kq ≤ kj3) ∧ Aside0 (IsS28 w0 w' g s0_0 s0_1) ∧ Aside0 (KeepBut w w' g none) ∧ Aside0 (Below w0.heap.size w0 w'))
     case atStart => exact ⟨(0), (by rfl), H', ⟨Nat.le_refl _⟩, ⟨HI0.out⟩, ⟨HK.out⟩, ⟨HB.out⟩⟩
     case round =>
      clear H'
      obtain ⟨x4_2, rfl, HA, HK2, HI0, HK, HB⟩ := hrel
      cases gk with
      | zero => exact absurd HA.out (by simp [q24.l0])
      | succ k2 =>
       have H := HA.out
       clear HA
       simp only [q24.l0] at H
       by_cases c14 : x4_2 < (s0_1.length : Int)
       ·rw [if_pos c14] at H
        have c14b0 : decide (x4_2 < (s0_1.length : Int)) = true := decide_eq_true c14
        clear c14
        replace H := ino H
        obtain ⟨c15, H⟩ := H
        have c15b0 : decide (0 ≤ x4_2) = true := decide_eq_true c15
        clear c15
        by_cases c16 : ((rd_L1 s0_1 x4_2).length : Int) > 8
        ·rw [if_pos c16] at H
         have c16b0 : decide (8 < ((rd_L1 s0_1 x4_2).length : Int)) = true := decide_eq_true c16
         have c16b1 : decide (8 < (rd_L1 s0_1 x4_2).length) = true := decide_eq_true (by omega)
         clear c16
         obtain rfl := Option.some.inj H
         obtain ⟨ASz17_0, cSz17_0, ASz17_1, cSz17_1, HGz17, hgz17, HSz17_0, HSz17_1⟩ := HI0.out
         have hcz17_0 := cellS28_0 HGz17
         have hcz17_1 := cellS28_1 HGz17
         clear HGz17 hgz17
         have p665 : 0 ≤ (x4_2 : Int) := od (by assumption)
         have q665 : x4_2 < (s0_1.length : Int) := od (by assumption)
         obtain ⟨ad665, A665_0, c665_0, e665, hx665_0, hl665_0, hi665_0⟩ := at_L1 HSz17_1.1 x4_2 p665 q665
         cases e665
         replace hx665_0 := pcb HB.out hx665_0
         have HR665_0 := Am hi665_0
         have HC665_0 := Am hl665_0
         clear hi665_0 hl665_0
         replace p665 := eq_true p665
         replace q665 := eq_true q665
         go_wp2
         go_ret
         exact ⟨by rfl, HI0.out, HB.out, HK.out⟩
        ·rw [if_neg c16] at H
         have c16b0 : decide (8 < ((rd_L1 s0_1 x4_2).length : Int)) = false := decide_eq_false c16
         have c16b1 : decide (8 < (rd_L1 s0_1 x4_2).length) = false := decide_eq_false (by omega)
         clear c16
         have H' := Am H
         clear H
         obtain ⟨ASz18_0, cSz18_0, ASz18_1, cSz18_1, HGz18, hgz18, HSz18_0, HSz18_1⟩ := HI0.out
         have hcz18_0 := cellS28_0 HGz18
         have hcz18_1 := cellS28_1 HGz18
         clear HGz18 hgz18
         have p665 : 0 ≤ (x4_2 : Int) := od (by assumption)
         have q665 : x4_2 < (s0_1.length : Int) := od (by assumption)
         obtain ⟨ad665, A665_0, c665_0, e665, hx665_0, hl665_0, hi665_0⟩ := at_L1 HSz18_1.1 x4_2 p665 q665
         cases e665
         replace hx665_0 := pcb HB.out hx665_0
         have HR665_0 := Am hi665_0
         have HC665_0 := Am hl665_0
         clear hi665_0 hl665_0
         replace p665 := eq_true p665
         replace q665 := eq_true q665
         go_wp2
         go_roundg k2
         case measure => have := HJ3.out; have := HK2.out; omega
         case rel => exact ⟨(wrap64 (x4_2 + 1)), (by rfl), H', ⟨by have := HJ3.out; have := HK2.out; omega⟩, ⟨HI0.out⟩, ⟨HK.out⟩, ⟨HB.out⟩⟩
       ·rw [if_neg c14] at H
        have c14b0 : decide (x4_2 < (s0_1.length : Int)) = false := decide_eq_false c14
        clear c14
        replace H := Option.bind_eq_some_iff.mp H
        obtain ⟨⟨t666, t667⟩, A190, H⟩ := H
        replace H : (if t667 = true then (q24.l1 k2 0 s0_0 s0_1) else (some 7)) = some r := H
        have A19 := Am A190
        clear A190
        by_cases c20 : t667 = true
        ·subst c20
         have H1 : (q24.l1 k2 0 s0_0 s0_1) = some r := by rw [if_pos rfl] at H; exact H
         clear H
         have H := H1
         clear H1
         have H' := Am H
         clear H
         obtain ⟨ASz21_0, cSz21_0, ASz21_1, cSz21_1, HGz21, hgz21, HSz21_0, HSz21_1⟩ := HI0.out
         have hcz21_0 := cellS28_0 HGz21
         have hcz21_1 := cellS28_1 HGz21
         clear HGz21 hgz21
         go_wp2_with (((with_reducible refine gate_callee (f := 195) rfl ?_); refine goesL_ (some 65) rfl rfl Tryz.func195 (by kernel_rfl) rfl #[.slice ASz21_0 s0_0.length cSz21_0] rfl (by (try simp only [List.map_toArray, List.map_cons, List.map_nil]); rfl) ?_; (with_reducible refine (q23.calls k2 _ _ s0_0 t666 true _ ?side1 ?side2 A19.out).mono ?_); (case side1 => exact Kd.C_below HSz21_0.1 HB.out); (case side2 => exact HSz21_0.2); rintro e w22 ⟨v668, rfl, ho0, hb⟩; refine ⟨_, rfl, ?_⟩; have HO669 := Am (Kd.R_lower ho0 (keep_size (w := w) (g := g) (row := none) HK.out)); replace HI0 := Am (IsS28.below HI0.out hb); replace HK := Am (KeepBut.trans HK.out (KeepBut.of_below hb g none) (.inl rfl)); replace HB := Am (below_step HB.out hb); (try clear hb); (try clear ho0)))
         go_loopg [7] k2 (fun kq v7 w' => ∃ (x7_3 : Int), v7 = .int .i64 x7_3 ∧ Aside0 (q24.l1 kq x7_3 s0_0 s0_1 = some r) ∧ Aside0 (kq ≤ k2) ∧ Aside0 (IsS28 w0 w' g s0_0 s0_1) ∧ Aside0 (KeepBut w w' g none) ∧ Aside0 (Below w0.heap.size w0 w'))
         case atStart => exact ⟨(0), (by rfl), H', ⟨Nat.le_refl _⟩, ⟨HI0.out⟩, ⟨HK.out⟩, ⟨HB.out⟩⟩
         case round =>
          clear H'
          try clear c14b0
          try clear hcz21_0
          try clear hcz21_1
          obtain ⟨x7_3, rfl, HA, HK3, HI0, HK, HB⟩ := hrel
          cases gk with
          | zero => exact absurd HA.out (by simp [q24.l1])
          | succ k3 =>
           have H := HA.out
           clear HA
           simp only [q24.l1] at H
           by_cases c23 : x7_3 < (s0_0.length : Int)
           ·rw [if_pos c23] at H
            have c23b0 : decide (x7_3 < (s0_0.length : Int)) = true := decide_eq_true c23
            clear c23
            have H' := Am H
            clear H
            obtain ⟨ASz24_0, cSz24_0, ASz24_1, cSz24_1, HGz24, hgz24, HSz24_0, HSz24_1⟩ := HI0.out
            have hcz24_0 := cellS28_0 HGz24
            have hcz24_1 := cellS28_1 HGz24
            clear HGz24 hgz24
            go_wp2
            go_loopg [8] k3 (fun kq v8 w' => ∃ (x8_4 : Int), v8 = .int .i64 x8_4 ∧ Aside0 (q24.l2 kq x7_3 x8_4 s0_0 s0_1 = some r) ∧ Aside0 (kq ≤ k3) ∧ Aside0 (IsS28 w0 w' g s0_0 s0_1) ∧ Aside0 (KeepBut w w' g none) ∧ Aside0 (Below w0.heap.size w0 w'))
            case atStart => exact ⟨(0), (by rfl), H', ⟨Nat.le_refl _⟩, ⟨HI0.out⟩, ⟨HK.out⟩, ⟨HB.out⟩⟩
            case round =>
             clear H'
             try clear c23b0
             try clear hcz24_0
             try clear hcz24_1
             obtain ⟨x8_4, rfl, HA, HK4, HI0, HK, HB⟩ := hrel
             cases gk with
             | zero => exact absurd HA.out (by simp [q24.l2])
             | succ k4 =>
              have H := HA.out
              clear HA
              simp only [q24.l2] at H
              replace H := ino H
              obtain ⟨c25, H⟩ := H
              have c25b0 : decide (0 ≤ x7_3) = true := decide_eq_true c25
              clear c25
              replace H := ino H
              obtain ⟨c26, H⟩ := H
              have c26b0 : decide (x7_3 < (s0_0.length : Int)) = true := decide_eq_true c26
              clear c26
              by_cases c27 : x8_4 < (((rd_T86 s0_0 x7_3).f4).length : Int)
              ·rw [if_pos c27] at H
               have c27b0 : decide (x8_4 < (((rd_T86 s0_0 x7_3).f4).length : Int)) = true := decide_eq_true c27
               clear c27
               replace H := ino H
               obtain ⟨c28, H⟩ := H
               have c28b0 : decide (0 ≤ x8_4) = true := decide_eq_true c28
               clear c28
               by_cases c29 : ((rd_T143 ((rd_T86 s0_0 x7_3).f4) x8_4).f1) ≥ (s0_0.length : Int)
               ·rw [if_pos c29] at H
                have c29b0 : decide ((s0_0.length : Int) ≤ ((rd_T143 ((rd_T86 s0_0 x7_3).f4) x8_4).f1)) = true := decide_eq_true c29
                clear c29
                obtain rfl := Option.some.inj H
                obtain ⟨ASz30_0, cSz30_0, ASz30_1, cSz30_1, HGz30, hgz30, HSz30_0, HSz30_1⟩ := HI0.out
                have hcz30_0 := cellS28_0 HGz30
                have hcz30_1 := cellS28_1 HGz30
                clear HGz30 hgz30
                have p670 : 0 ≤ (x7_3 : Int) := od (by assumption)
                have q670 : x7_3 < (s0_0.length : Int) := od (by assumption)
                obtain ⟨ad670, A670_3, c670_3, A670_4, c670_4, e670, hx670_0, hx670_1, hx670_2, hx670_3, hx670_4, hl670_3, hi670_3, hl670_4, hi670_4⟩ := at_T86 HSz30_0.1 x7_3 p670 q670
                cases e670
                replace hx670_0 := pcb HB.out hx670_0
                replace hx670_1 := pcb HB.out hx670_1
                replace hx670_2 := pcb HB.out hx670_2
                replace hx670_3 := pcb HB.out hx670_3
                replace hx670_4 := pcb HB.out hx670_4
                have HR670_3 := Am hi670_3
                have HC670_3 := Am hl670_3
                clear hi670_3 hl670_3
                have HR670_4 := Am hi670_4
                have HC670_4 := Am hl670_4
                clear hi670_4 hl670_4
                replace p670 := eq_true p670
                replace q670 := eq_true q670
                have p671 : 0 ≤ (x7_3 : Int) := od (by assumption)
                have q671 : x7_3 < (s0_0.length : Int) := od (by assumption)
                obtain ⟨ad671, A671_3, c671_3, A671_4, c671_4, e671, hx671_0, hx671_1, hx671_2, hx671_3, hx671_4, hl671_3, hi671_3, hl671_4, hi671_4⟩ := at_T86 HSz30_0.1 x7_3 p671 q671
                obtain rfl : ad670 = ad671 := (by injection e671)
                replace hx671_0 := pcb HB.out hx671_0
                replace hx671_1 := pcb HB.out hx671_1
                replace hx671_2 := pcb HB.out hx671_2
                replace hx671_3 := pcb HB.out hx671_3
                replace hx671_4 := pcb HB.out hx671_4
                have HR671_3 := Am hi671_3
                have HC671_3 := Am hl671_3
                clear hi671_3 hl671_3
                have HR671_4 := Am hi671_4
                have HC671_4 := Am hl671_4
                clear hi671_4 hl671_4
                replace p671 := eq_true p671
                replace q671 := eq_true q671
                have ea_ := Option.some.inj (hx670_3.symm.trans hx671_3)
                injection ea_ with ea_ en_ ec_
                subst ea_
                subst ec_
                clear en_
                have ea_ := Option.some.inj (hx670_4.symm.trans hx671_4)
                injection ea_ with ea_ en_ ec_
                subst ea_
                subst ec_
                clear en_
                have p672 : 0 ≤ (x8_4 : Int) := od (by assumption)
                have q672 : x8_4 < (((rd_T86 s0_0 x7_3).f4).length : Int) := od (by assumption)
                obtain ⟨ad672, e672, hx672_0, hx672_1⟩ := at_T143 HR671_4.out x8_4 p672 q672
                cases e672
                replace hx672_0 := pcb HB.out hx672_0
                replace hx672_1 := pcb HB.out hx672_1
                replace p672 := eq_true p672
                replace q672 := eq_true q672
                go_wp2
                go_ret
                exact ⟨by rfl, HI0.out, HB.out, HK.out⟩
               ·rw [if_neg c29] at H
                have c29b0 : decide ((s0_0.length : Int) ≤ ((rd_T143 ((rd_T86 s0_0 x7_3).f4) x8_4).f1)) = false := decide_eq_false c29
                clear c29
                replace H := ino H
                obtain ⟨c31, H⟩ := H
                have c31b0 : decide (0 ≤ ((rd_T143 ((rd_T86 s0_0 x7_3).f4) x8_4).f1)) = true := decide_eq_true c31
                clear c31
                replace H := ino H
                obtain ⟨c32, H⟩ := H
                have c32b0 : decide (((rd_T143 ((rd_T86 s0_0 x7_3).f4) x8_4).f1) < (s0_0.length : Int)) = true := decide_eq_true c32
                clear c32
                by_cases c33 : ((rd_T86 s0_0 ((rd_T143 ((rd_T86 s0_0 x7_3).f4) x8_4).f1)).f0) = 0
                ·rw [if_pos c33] at H
                 have c33b0 : (((rd_T86 s0_0 ((rd_T143 ((rd_T86 s0_0 x7_3).f4) x8_4).f1)).f0) == 0) = true := beq_iff_eq.mpr c33
                 have c33b1 : (((rd_T86 s0_0 ((rd_T143 ((rd_T86 s0_0 x7_3).f4) x8_4).f1)).f0) != 0) = false := bne_eq_false_iff_eq.mpr c33
                 clear c33
                 obtain rfl := Option.some.inj H
                 obtain ⟨ASz34_0, cSz34_0, ASz34_1, cSz34_1, HGz34, hgz34, HSz34_0, HSz34_1⟩ := HI0.out
                 have hcz34_0 := cellS28_0 HGz34
                 have hcz34_1 := cellS28_1 HGz34
                 clear HGz34 hgz34
                 have p670 : 0 ≤ (x7_3 : Int) := od (by assumption)
                 have q670 : x7_3 < (s0_0.length : Int) := od (by assumption)
                 obtain ⟨ad670, A670_3, c670_3, A670_4, c670_4, e670, hx670_0, hx670_1, hx670_2, hx670_3, hx670_4, hl670_3, hi670_3, hl670_4, hi670_4⟩ := at_T86 HSz34_0.1 x7_3 p670 q670
                 cases e670
                 replace hx670_0 := pcb HB.out hx670_0
                 replace hx670_1 := pcb HB.out hx670_1
                 replace hx670_2 := pcb HB.out hx670_2
                 replace hx670_3 := pcb HB.out hx670_3
                 replace hx670_4 := pcb HB.out hx670_4
                 have HR670_3 := Am hi670_3
                 have HC670_3 := Am hl670_3
                 clear hi670_3 hl670_3
                 have HR670_4 := Am hi670_4
                 have HC670_4 := Am hl670_4
                 clear hi670_4 hl670_4
                 replace p670 := eq_true p670
                 replace q670 := eq_true q670
                 have p671 : 0 ≤ (x7_3 : Int) := od (by assumption)
                 have q671 : x7_3 < (s0_0.length : Int) := od (by assumption)
                 obtain ⟨ad671, A671_3, c671_3, A671_4, c671_4, e671, hx671_0, hx671_1, hx671_2, hx671_3, hx671_4, hl671_3, hi671_3, hl671_4, hi671_4⟩ := at_T86 HSz34_0.1 x7_3 p671 q671
                 obtain rfl : ad670 = ad671 := (by injection e671)
                 replace hx671_0 := pcb HB.out hx671_0
                 replace hx671_1 := pcb HB.out hx671_1
                 replace hx671_2 := pcb HB.out hx671_2
                 replace hx671_3 := pcb HB.out hx671_3
                 replace hx671_4 := pcb HB.out hx671_4
                 have HR671_3 := Am hi671_3
                 have HC671_3 := Am hl671_3
                 clear hi671_3 hl671_3
                 have HR671_4 := Am hi671_4
                 have HC671_4 := Am hl671_4
                 clear hi671_4 hl671_4
                 replace p671 := eq_true p671
                 replace q671 := eq_true q671
                 have ea_ := Option.some.inj (hx670_3.symm.trans hx671_3)
                 injection ea_ with ea_ en_ ec_
                 subst ea_
                 subst ec_
                 clear en_
                 have ea_ := Option.some.inj (hx670_4.symm.trans hx671_4)
                 injection ea_ with ea_ en_ ec_
                 subst ea_
                 subst ec_
                 clear en_
                 have p672 : 0 ≤ (x8_4 : Int) := od (by assumption)
                 have q672 : x8_4 < (((rd_T86 s0_0 x7_3).f4).length : Int) := od (by assumption)
                 obtain ⟨ad672, e672, hx672_0, hx672_1⟩ := at_T143 HR671_4.out x8_4 p672 q672
                 cases e672
                 replace hx672_0 := pcb HB.out hx672_0
                 replace hx672_1 := pcb HB.out hx672_1
                 replace p672 := eq_true p672
                 replace q672 := eq_true q672
                 have p673 : 0 ≤ (((rd_T143 ((rd_T86 s0_0 x7_3).f4) x8_4).f1) : Int) := od (by assumption)
                 have q673 : ((rd_T143 ((rd_T86 s0_0 x7_3).f4) x8_4).f1) < (s0_0.length : Int) := od (by assumption)
                 obtain ⟨ad673, A673_3, c673_3, A673_4, c673_4, e673, hx673_0, hx673_1, hx673_2, hx673_3, hx673_4, hl673_3, hi673_3, hl673_4, hi673_4⟩ := at_T86 HSz34_0.1 ((rd_T143 ((rd_T86 s0_0 x7_3).f4) x8_4).f1) p673 q673
                 obtain rfl : ad670 = ad673 := (by injection e673)
                 replace hx673_0 := pcb HB.out hx673_0
                 replace hx673_1 := pcb HB.out hx673_1
                 replace hx673_2 := pcb HB.out hx673_2
                 replace hx673_3 := pcb HB.out hx673_3
                 replace hx673_4 := pcb HB.out hx673_4
                 have HR673_3 := Am hi673_3
                 have HC673_3 := Am hl673_3
                 clear hi673_3 hl673_3
                 have HR673_4 := Am hi673_4
                 have HC673_4 := Am hl673_4
                 clear hi673_4 hl673_4
                 replace p673 := eq_true p673
                 replace q673 := eq_true q673
                 go_wp2
                 go_ret
                 exact ⟨by rfl, HI0.out, HB.out, HK.out⟩
                ·rw [if_neg c33] at H
                 have c33b0 : (((rd_T86 s0_0 ((rd_T143 ((rd_T86 s0_0 x7_3).f4) x8_4).f1)).f0) == 0) = false := beq_eq_false_iff_ne.mpr c33
                 have c33b1 : (((rd_T86 s0_0 ((rd_T143 ((rd_T86 s0_0 x7_3).f4) x8_4).f1)).f0) != 0) = true := bne_iff_ne.mpr c33
                 have H' := Am H
                 clear H
                 obtain ⟨ASz35_0, cSz35_0, ASz35_1, cSz35_1, HGz35, hgz35, HSz35_0, HSz35_1⟩ := HI0.out
                 have hcz35_0 := cellS28_0 HGz35
                 have hcz35_1 := cellS28_1 HGz35
                 clear HGz35 hgz35
                 have p670 : 0 ≤ (x7_3 : Int) := od (by assumption)
                 have q670 : x7_3 < (s0_0.length : Int) := od (by assumption)
                 obtain ⟨ad670, A670_3, c670_3, A670_4, c670_4, e670, hx670_0, hx670_1, hx670_2, hx670_3, hx670_4, hl670_3, hi670_3, hl670_4, hi670_4⟩ := at_T86 HSz35_0.1 x7_3 p670 q670
                 cases e670
                 replace hx670_0 := pcb HB.out hx670_0
                 replace hx670_1 := pcb HB.out hx670_1
                 replace hx670_2 := pcb HB.out hx670_2
                 replace hx670_3 := pcb HB.out hx670_3
                 replace hx670_4 := pcb HB.out hx670_4
                 have HR670_3 := Am hi670_3
                 have HC670_3 := Am hl670_3
                 clear hi670_3 hl670_3
                 have HR670_4 := Am hi670_4
                 have HC670_4 := Am hl670_4
                 clear hi670_4 hl670_4
                 replace p670 := eq_true p670
                 replace q670 := eq_true q670
                 have p671 : 0 ≤ (x7_3 : Int) := od (by assumption)
                 have q671 : x7_3 < (s0_0.length : Int) := od (by assumption)
                 obtain ⟨ad671, A671_3, c671_3, A671_4, c671_4, e671, hx671_0, hx671_1, hx671_2, hx671_3, hx671_4, hl671_3, hi671_3, hl671_4, hi671_4⟩ := at_T86 HSz35_0.1 x7_3 p671 q671
                 obtain rfl : ad670 = ad671 := (by injection e671)
                 replace hx671_0 := pcb HB.out hx671_0
                 replace hx671_1 := pcb HB.out hx671_1
                 replace hx671_2 := pcb HB.out hx671_2
                 replace hx671_3 := pcb HB.out hx671_3
                 replace hx671_4 := pcb HB.out hx671_4
                 have HR671_3 := Am hi671_3
                 have HC671_3 := Am hl671_3
                 clear hi671_3 hl671_3
                 have HR671_4 := Am hi671_4
                 have HC671_4 := Am hl671_4
                 clear hi671_4 hl671_4
                 replace p671 := eq_true p671
                 replace q671 := eq_true q671
                 have ea_ := Option.some.inj (hx670_3.symm.trans hx671_3)
                 injection ea_ with ea_ en_ ec_
                 subst ea_
                 subst ec_
                 clear en_
                 have ea_ := Option.some.inj (hx670_4.symm.trans hx671_4)
                 injection ea_ with ea_ en_ ec_
                 subst ea_
                 subst ec_
                 clear en_
                 have p672 : 0 ≤ (x8_4 : Int) := od (by assumption)
                 have q672 : x8_4 < (((rd_T86 s0_0 x7_3).f4).length : Int) := od (by assumption)
                 obtain ⟨ad672, e672, hx672_0, hx672_1⟩ := at_T143 HR671_4.out x8_4 p672 q672
                 cases e672
                 replace hx672_0 := pcb HB.out hx672_0
                 replace hx672_1 := pcb HB.out hx672_1
                 replace p672 := eq_true p672
                 replace q672 := eq_true q672
                 have p673 : 0 ≤ (((rd_T143 ((rd_T86 s0_0 x7_3).f4) x8_4).f1) : Int) := od (by assumption)
                 have q673 : ((rd_T143 ((rd_T86 s0_0 x7_3).f4) x8_4).f1) < (s0_0.length : Int) := od (by assumption)
                 obtain ⟨ad673, A673_3, c673_3, A673_4, c673_4, e673, hx673_0, hx673_1, hx673_2, hx673_3, hx673_4, hl673_3, hi673_3, hl673_4, hi673_4⟩ := at_T86 HSz35_0.1 ((rd_T143 ((rd_T86 s0_0 x7_3).f4) x8_4).f1) p673 q673
                 obtain rfl : ad670 = ad673 := (by injection e673)
                 replace hx673_0 := pcb HB.out hx673_0
                 replace hx673_1 := pcb HB.out hx673_1
                 replace hx673_2 := pcb HB.out hx673_2
                 replace hx673_3 := pcb HB.out hx673_3
                 replace hx673_4 := pcb HB.out hx673_4
                 have HR673_3 := Am hi673_3
                 have HC673_3 := Am hl673_3
                 clear hi673_3 hl673_3
                 have HR673_4 := Am hi673_4
                 have HC673_4 := Am hl673_4
                 clear hi673_4 hl673_4
                 replace p673 := eq_true p673
                 replace q673 := eq_true q673
                 go_wp2
                 go_roundg k4
                 case measure => have := HJ3.out; have := HK2.out; have := HK3.out; have := HK4.out; omega
                 case rel => exact ⟨(wrap64 (x8_4 + 1)), (by rfl), H', ⟨by have := HJ3.out; have := HK2.out; have := HK3.out; have := HK4.out; omega⟩, ⟨HI0.out⟩, ⟨HK.out⟩, ⟨HB.out⟩⟩
              ·rw [if_neg c27] at H
               have c27b0 : decide (x8_4 < (((rd_T86 s0_0 x7_3).f4).length : Int)) = false := decide_eq_false c27
               clear c27
               have H' := Am H
               clear H
               obtain ⟨ASz36_0, cSz36_0, ASz36_1, cSz36_1, HGz36, hgz36, HSz36_0, HSz36_1⟩ := HI0.out
               have hcz36_0 := cellS28_0 HGz36
               have hcz36_1 := cellS28_1 HGz36
               clear HGz36 hgz36
               have p670 : 0 ≤ (x7_3 : Int) := od (by assumption)
               have q670 : x7_3 < (s0_0.length : Int) := od (by assumption)
               obtain ⟨ad670, A670_3, c670_3, A670_4, c670_4, e670, hx670_0, hx670_1, hx670_2, hx670_3, hx670_4, hl670_3, hi670_3, hl670_4, hi670_4⟩ := at_T86 HSz36_0.1 x7_3 p670 q670
               cases e670
               replace hx670_0 := pcb HB.out hx670_0
               replace hx670_1 := pcb HB.out hx670_1
               replace hx670_2 := pcb HB.out hx670_2
               replace hx670_3 := pcb HB.out hx670_3
               replace hx670_4 := pcb HB.out hx670_4
               have HR670_3 := Am hi670_3
               have HC670_3 := Am hl670_3
               clear hi670_3 hl670_3
               have HR670_4 := Am hi670_4
               have HC670_4 := Am hl670_4
               clear hi670_4 hl670_4
               replace p670 := eq_true p670
               replace q670 := eq_true q670
               go_wp2
               go_roundg k4
               case measure => have := HJ3.out; have := HK2.out; have := HK3.out; have := HK4.out; omega
               case rel => exact ⟨(wrap64 (x7_3 + 1)), (by rfl), H', ⟨by have := HJ3.out; have := HK2.out; have := HK3.out; have := HK4.out; omega⟩, ⟨HI0.out⟩, ⟨HK.out⟩, ⟨HB.out⟩⟩
           ·rw [if_neg c23] at H
            have c23b0 : decide (x7_3 < (s0_0.length : Int)) = false := decide_eq_false c23
            clear c23
            obtain rfl := Option.some.inj H
            obtain ⟨ASz37_0, cSz37_0, ASz37_1, cSz37_1, HGz37, hgz37, HSz37_0, HSz37_1⟩ := HI0.out
            have hcz37_0 := cellS28_0 HGz37
            have hcz37_1 := cellS28_1 HGz37
            clear HGz37 hgz37
            go_wp2
            go_ret
            exact ⟨by rfl, HI0.out, HB.out, HK.out⟩
        ·replace c20 := Bool.eq_false_iff.mpr c20
         subst c20
         have H1 : (some 7) = some r := by rw [if_neg (show ¬ (false = true) by decide)] at H; exact H
         clear H
         have H := H1
         clear H1
         obtain rfl := Option.some.inj H
         obtain ⟨ASz38_0, cSz38_0, ASz38_1, cSz38_1, HGz38, hgz38, HSz38_0, HSz38_1⟩ := HI0.out
         have hcz38_0 := cellS28_0 HGz38
         have hcz38_1 := cellS28_1 HGz38
         clear HGz38 hgz38
         go_wp2_with (((with_reducible refine gate_callee (f := 195) rfl ?_); refine goesL_ (some 65) rfl rfl Tryz.func195 (by kernel_rfl) rfl #[.slice ASz38_0 s0_0.length cSz38_0] rfl (by (try simp only [List.map_toArray, List.map_cons, List.map_nil]); rfl) ?_; (with_reducible refine (q23.calls k2 _ _ s0_0 t666 false _ ?side1 ?side2 A19.out).mono ?_); (case side1 => exact Kd.C_below HSz38_0.1 HB.out); (case side2 => exact HSz38_0.2); rintro e w39 ⟨v668, rfl, ho0, hb⟩; refine ⟨_, rfl, ?_⟩; have HO669 := Am (Kd.R_lower ho0 (keep_size (w := w) (g := g) (row := none) HK.out)); replace HI0 := Am (IsS28.below HI0.out hb); replace HK := Am (KeepBut.trans HK.out (KeepBut.of_below hb g none) (.inl rfl)); replace HB := Am (below_step HB.out hb); (try clear hb); (try clear ho0)))
         go_ret
         exact ⟨by rfl, HI0.out, HB.out, HK.out⟩
 ·rw [if_neg c3] at H
  have c3b0 : (t663 == 0) = false := beq_eq_false_iff_ne.mpr c3
  have c3b1 : (t663 != 0) = true := bne_iff_ne.mpr c3
  obtain rfl := Option.some.inj H
  obtain ⟨ASz40_0, cSz40_0, ASz40_1, cSz40_1, HGz40, hgz40, HSz40_0, HSz40_1⟩ := HI0.out
  have hcz40_0 := cellS28_0 HGz40
  have hcz40_1 := cellS28_1 HGz40
  clear HGz40 hgz40
  go_enter Tryz.func125, Tryz.ntmps125
  go_wp2_with (((with_reducible refine gate_callee (f := 194) rfl ?_); refine goesL_ (some 14) rfl rfl Tryz.func194 (by kernel_rfl) rfl #[.slice ASz40_0 s0_0.length cSz40_0] rfl (by (try simp only [List.map_toArray, List.map_cons, List.map_nil]); rfl) ?_; (with_reducible refine (q21.calls k _ _ s0_0 t663 _ ?side1 ?side2 A2.out).mono ?_); (case side1 => exact Kd.C_below HSz40_0.1 HB.out); (case side2 => exact HSz40_0.2); rintro e w41 ⟨rfl, hb⟩; refine ⟨_, rfl, ?_⟩; replace HI0 := Am (IsS28.below HI0.out hb); replace HK := Am (KeepBut.trans HK.out (KeepBut.of_below hb g none) (.inl rfl)); replace HB := Am (below_step HB.out hb); (try clear hb)))
  go_ret
  exact ⟨by rfl, HI0.out, HB.out, HK.out⟩
end Go.Proofs.YtafhjhdohclchaaGreatDoor.G
namespace Go.Proofs.YtafhjhdohclchaaGreatDoor.G
open Go.RowKit Go.Proofs.YtafhjhdohclchaaGreatDoorW.PrintWords Go.Proofs.YtafhjhdohclchaaGreatDoorW.PrintLast Go.Proofs.YtafhjhdohclchaaGreatDoorW.PrintMore
attribute [local go_sem] min2_int min_two
attribute [local go_sem high] str_leq
attribute [local go_sem] binOp_string_geq
def q1z.l0 : Nat → List Int → Int → Int → Option (Bool)
 | 0, _, _, _ => none
 | k + 1, x0, x1, x5 => if x5 < (x0.length : Int) then (if 0 ≤ x5 then (if (rd x0 x5) = x1 then (some true) else (q1z.l0 k x0 x1 (wrap64 (x5 + 1)))) else (none)) else (some false)
def q1z.f (k : Nat) (l0 : List Int) (a1 : Int) : Option (Bool) := q1z.l0 k l0 a1 0
theorem q1z.mono_l : ∀ k, (∀ y0 y1 y2, LeO (q1z.l0 k y0 y1 y2) (q1z.l0 (k + 1) y0 y1 y2))
 | 0 => fun _ _ _ r h => by simp [q1z.l0] at h
 | k + 1 => by
  have ih0 := q1z.mono_l k
  ·intro y0 y1 y2
   unfold q1z.l0
   repeat' first | (with_reducible exact ih0 _ _ _) | (with_reducible exact LeO.refl _) | (with_reducible refine LeO.ite ?_ ?_)
theorem q1z.mono : ∀ a0 a1 k, LeO (q1z.f k a0 a1) (q1z.f (k + 1) a0 a1) := by
 intro a0 a1 k
 have ih0 := q1z.mono_l k
 unfold q1z.f
 repeat' (with_reducible exact ih0 _ _ _)
set_option maxHeartbeats 8000000 in
set_option maxRecDepth 100000 in
theorem q1z.calls (k : Nat) (A0 : Option Addr) (c0 : Nat) (l0 : List Int) (a1 : Int) (r : Bool) (w : World) (hr0 : Kd.C (Kd.int .i64) w A0 l0.length l0) (hc0 : l0.length ≤ c0) (h : q1z.f k l0 a1 = some r) :
  Calls Tryz.prog 68 #[.slice A0 l0.length c0, .int .i64 a1] w fun e w' => e = .returned (.bool r) ∧ Drawn0 w w' := by
 have HR0 := Am hr0
 have HC0 := Am hc0
 clear hr0 hc0
 have H : (q1z.l0 k l0 a1 0) = some r := h
 clear h
 have H' := Am H
 clear H
 go_enter Tryz.func68, Tryz.ntmps68
 go_wp2
 go_loopg [5] k (fun kq v5 w' => ∃ (x5_1 : Int), v5 = .int .i64 x5_1 ∧ Aside0 (q1z.l0 kq l0 a1 x5_1 = some r) ∧ Aside0 (kq ≤ k) ∧ Drawn0 w w')
 case atStart => exact ⟨(0), (by rfl), H', ⟨Nat.le_refl _⟩, by repeat (exact Drawn0.refl _)⟩
 case round =>
  clear H'
  obtain ⟨x5_1, rfl, HA, HK1, ⟨m1, rfl⟩⟩ := hrel
  cases gk with
  | zero => exact absurd HA.out (by simp [q1z.l0])
  | succ k1 =>
   have H := HA.out
   clear HA
   simp only [q1z.l0] at H
   by_cases c3 : x5_1 < (l0.length : Int)
   ·rw [if_pos c3] at H
    have c3b0 : decide (x5_1 < (l0.length : Int)) = true := decide_eq_true c3
    clear c3
    replace H := ino H
    obtain ⟨c4, H⟩ := H
    have c4b0 : decide (0 ≤ x5_1) = true := decide_eq_true c4
    clear c4
    by_cases c5 : (rd l0 x5_1) = a1
    ·rw [if_pos c5] at H
     have c5b0 : ((rd l0 x5_1) == a1) = true := beq_iff_eq.mpr c5
     have c5b1 : ((rd l0 x5_1) != a1) = false := bne_eq_false_iff_eq.mpr c5
     clear c5
     obtain rfl := Option.some.inj H
     have p674 : 0 ≤ (x5_1 : Int) := od (by assumption)
     have q674 : x5_1 < (l0.length : Int) := od (by assumption)
     obtain ⟨ad674, e674, hx674_0⟩ := Kd.at_int HR0.out x5_1 p674 q674
     cases e674
     replace p674 := eq_true p674
     replace q674 := eq_true q674
     go_wp2
     go_ret
     exact ⟨by rfl, by repeat (first | exact Drawn0.refl _ | apply Drawn0.step)⟩
    ·rw [if_neg c5] at H
     have c5b0 : ((rd l0 x5_1) == a1) = false := beq_eq_false_iff_ne.mpr c5
     have c5b1 : ((rd l0 x5_1) != a1) = true := bne_iff_ne.mpr c5
     have H' := Am H
     clear H
     have p674 : 0 ≤ (x5_1 : Int) := od (by assumption)
     have q674 : x5_1 < (l0.length : Int) := od (by assumption)
     obtain ⟨ad674, e674, hx674_0⟩ := Kd.at_int HR0.out x5_1 p674 q674
     cases e674
     replace p674 := eq_true p674
     replace q674 := eq_true q674
     go_wp2
     go_roundg k1
     case measure => have := HK1.out; omega
     case rel => exact ⟨(wrap64 (x5_1 + 1)), (by rfl), H', ⟨by have := HK1.out; omega⟩, by repeat (first | exact Drawn0.refl _ | apply Drawn0.step)⟩
   ·rw [if_neg c3] at H
    have c3b0 : decide (x5_1 < (l0.length : Int)) = false := decide_eq_false c3
    clear c3
    obtain rfl := Option.some.inj H
    go_wp2
    go_ret
    exact ⟨by rfl, by repeat (first | exact Drawn0.refl _ | apply Drawn0.step)⟩
end Go.Proofs.YtafhjhdohclchaaGreatDoor.G
namespace Go.Proofs.YtafhjhdohclchaaGreatDoor.G
open Go.RowKit Go.Proofs.YtafhjhdohclchaaGreatDoorW.PrintWords Go.Proofs.YtafhjhdohclchaaGreatDoorW.PrintLast Go.Proofs.YtafhjhdohclchaaGreatDoorW.PrintMore
attribute [local go_sem] min2_int min_two
attribute [local go_sem high] str_leq
attribute [local go_sem] binOp_string_geq
mutual
def q22.l0 : Nat → List (S86) → Int → Int → Int → Option (Int)
 | 0, _, _, _, _ => none
 | k + 1, x0, x1, x5, x6 => if x6 < (x0.length : Int) then (q22.l1 k x0 x1 x5 x6 0) else (some x5)
def q22.l1 : Nat → List (S86) → Int → Int → Int → Int → Option (Int)
 | 0, _, _, _, _, _ => none
 | k + 1, x0, x1, x5, x6, x7 => if 0 ≤ x6 then (if x6 < (x0.length : Int) then (if x7 < (((rd_T86 x0 x6).f4).length : Int) then (if 0 ≤ x7 then (if ((rd_T143 ((rd_T86 x0 x6).f4) x7).f1) = x1 then (q22.l1 k x0 x1 (wrap64 (x5 + 1)) x6 (wrap64 (x7 + 1))) else (q22.l1 k x0 x1 x5 x6 (wrap64 (x7 + 1)))) else (none)) else (q22.l0 k x0 x1 x5 (wrap64 (x6 + 1)))) else (none)) else (none)
end
def q22.f (k : Nat) (l0 : List (S86)) (a1 : Int) : Option (Int) := q22.l0 k l0 a1 0 0
theorem q22.mono_l : ∀ k, (∀ y0 y1 y2 y3, LeO (q22.l0 k y0 y1 y2 y3) (q22.l0 (k + 1) y0 y1 y2 y3)) ∧ (∀ y0 y1 y2 y3 y4, LeO (q22.l1 k y0 y1 y2 y3 y4) (q22.l1 (k + 1) y0 y1 y2 y3 y4))
 | 0 => ⟨fun _ _ _ _ r h => by simp [q22.l0] at h, fun _ _ _ _ _ r h => by simp [q22.l1] at h⟩
 | k + 1 => by
  obtain ⟨ih0, ih1⟩ := q22.mono_l k
  refine ⟨?_, ?_⟩
  ·intro y0 y1 y2 y3
   unfold q22.l0
   repeat' first | (with_reducible exact ih1 _ _ _ _ _) | (with_reducible exact LeO.refl _) | (with_reducible refine LeO.ite ?_ ?_)
  ·intro y0 y1 y2 y3 y4
   unfold q22.l1
   repeat' first | (with_reducible exact ih0 _ _ _ _) | (with_reducible exact ih1 _ _ _ _ _) | (with_reducible exact LeO.refl _) | (with_reducible refine LeO.ite ?_ ?_)
theorem q22.mono : ∀ a0 a1 k, LeO (q22.f k a0 a1) (q22.f (k + 1) a0 a1) := by
 intro a0 a1 k
 obtain ⟨ih0, ih1⟩ := q22.mono_l k
 unfold q22.f
 repeat' (with_reducible exact ih0 _ _ _ _)
set_option maxHeartbeats 8000000 in
set_option maxRecDepth 100000 in
theorem q22.calls (k : Nat) (A0 : Option Addr) (c0 : Nat) (l0 : List (S86)) (a1 : Int) (r : Int) (w : World) (hr0 : Kd.C k86 w A0 l0.length l0) (hc0 : l0.length ≤ c0) (h : q22.f k l0 a1 = some r) :
  Calls Tryz.prog 197 #[.slice A0 l0.length c0, .int .i64 a1] w fun e w' => e = .returned (.int .i64 r) ∧ Drawn0 w w' := by
 have HR0 := Am hr0
 have HC0 := Am hc0
 clear hr0 hc0
 have H : (q22.l0 k l0 a1 0 0) = some r := h
 clear h
 have H' := Am H
 clear H
 go_enter Tryz.func197, Tryz.ntmps197
 go_wp2
 go_loopg [5, 6] k (fun kq v5 v6 w' => ∃ (x5_1 : Int) (x6_1 : Int), v5 = .int .i64 x5_1 ∧ v6 = .int .i64 x6_1 ∧ Aside0 (q22.l0 kq l0 a1 x5_1 x6_1 = some r) ∧ Aside0 (kq ≤ k) ∧ Drawn0 w w')
 case atStart => exact ⟨(0), (0), (by rfl), (by rfl), H', ⟨Nat.le_refl _⟩, by repeat (exact Drawn0.refl _)⟩
 case round =>
  clear H'
  obtain ⟨x5_1, x6_1, rfl, rfl, HA, HK1, ⟨m1, rfl⟩⟩ := hrel
  cases gk with
  | zero => exact absurd HA.out (by simp [q22.l0])
  | succ k1 =>
   have H := HA.out
   clear HA
   simp only [q22.l0] at H
   by_cases c3 : x6_1 < (l0.length : Int)
   ·rw [if_pos c3] at H
    have c3b0 : decide (x6_1 < (l0.length : Int)) = true := decide_eq_true c3
    clear c3
    have H' := Am H
    clear H
    go_wp2
    go_loopg [5, 7] k1 (fun kq v5 v7 w' => ∃ (x5_2 : Int) (x7_2 : Int), v5 = .int .i64 x5_2 ∧ v7 = .int .i64 x7_2 ∧ Aside0 (q22.l1 kq l0 a1 x5_2 x6_1 x7_2 = some r) ∧ Aside0 (kq ≤ k1) ∧ Drawn0 w w')
    case atStart => exact ⟨(x5_1), (0), (by rfl), (by rfl), H', ⟨Nat.le_refl _⟩, by repeat (first | exact Drawn0.refl _ | apply Drawn0.step)⟩
    case round =>
     clear H'
     try clear c3b0
     obtain ⟨x5_2, x7_2, rfl, rfl, HA, HK2, ⟨m2, rfl⟩⟩ := hrel
     cases gk with
     | zero => exact absurd HA.out (by simp [q22.l1])
     | succ k2 =>
      have H := HA.out
      clear HA
      simp only [q22.l1] at H
      replace H := ino H
      obtain ⟨c4, H⟩ := H
      have c4b0 : decide (0 ≤ x6_1) = true := decide_eq_true c4
      clear c4
      replace H := ino H
      obtain ⟨c5, H⟩ := H
      have c5b0 : decide (x6_1 < (l0.length : Int)) = true := decide_eq_true c5
      clear c5
      by_cases c6 : x7_2 < (((rd_T86 l0 x6_1).f4).length : Int)
      ·rw [if_pos c6] at H
       have c6b0 : decide (x7_2 < (((rd_T86 l0 x6_1).f4).length : Int)) = true := decide_eq_true c6
       clear c6
       replace H := ino H
       obtain ⟨c7, H⟩ := H
       have c7b0 : decide (0 ≤ x7_2) = true := decide_eq_true c7
       clear c7
       by_cases c8 : ((rd_T143 ((rd_T86 l0 x6_1).f4) x7_2).f1) = a1
       ·rw [if_pos c8] at H
        have c8b0 : (((rd_T143 ((rd_T86 l0 x6_1).f4) x7_2).f1) == a1) = true := beq_iff_eq.mpr c8
        have c8b1 : (((rd_T143 ((rd_T86 l0 x6_1).f4) x7_2).f1) != a1) = false := bne_eq_false_iff_eq.mpr c8
        clear c8
        have H' := Am H
        clear H
        have p691 : 0 ≤ (x6_1 : Int) := od (by assumption)
        have q691 : x6_1 < (l0.length : Int) := od (by assumption)
        obtain ⟨ad691, A691_3, c691_3, A691_4, c691_4, e691, hx691_0, hx691_1, hx691_2, hx691_3, hx691_4, hl691_3, hi691_3, hl691_4, hi691_4⟩ := at_T86 HR0.out x6_1 p691 q691
        cases e691
        have HR691_3 := Am hi691_3
        have HC691_3 := Am hl691_3
        clear hi691_3 hl691_3
        have HR691_4 := Am hi691_4
        have HC691_4 := Am hl691_4
        clear hi691_4 hl691_4
        replace p691 := eq_true p691
        replace q691 := eq_true q691
        have p692 : 0 ≤ (x6_1 : Int) := od (by assumption)
        have q692 : x6_1 < (l0.length : Int) := od (by assumption)
        obtain ⟨ad692, A692_3, c692_3, A692_4, c692_4, e692, hx692_0, hx692_1, hx692_2, hx692_3, hx692_4, hl692_3, hi692_3, hl692_4, hi692_4⟩ := at_T86 HR0.out x6_1 p692 q692
        obtain rfl : ad691 = ad692 := (by injection e692)
        have HR692_3 := Am hi692_3
        have HC692_3 := Am hl692_3
        clear hi692_3 hl692_3
        have HR692_4 := Am hi692_4
        have HC692_4 := Am hl692_4
        clear hi692_4 hl692_4
        replace p692 := eq_true p692
        replace q692 := eq_true q692
        have ea_ := Option.some.inj (hx691_3.symm.trans hx692_3)
        injection ea_ with ea_ en_ ec_
        subst ea_
        subst ec_
        clear en_
        have ea_ := Option.some.inj (hx691_4.symm.trans hx692_4)
        injection ea_ with ea_ en_ ec_
        subst ea_
        subst ec_
        clear en_
        have p693 : 0 ≤ (x7_2 : Int) := od (by assumption)
        have q693 : x7_2 < (((rd_T86 l0 x6_1).f4).length : Int) := od (by assumption)
        obtain ⟨ad693, e693, hx693_0, hx693_1⟩ := at_T143 HR692_4.out x7_2 p693 q693
        cases e693
        replace p693 := eq_true p693
        replace q693 := eq_true q693
        go_wp2
        go_roundg k2
        case measure => have := HK1.out; have := HK2.out; omega
        case rel => exact ⟨(wrap64 (x5_2 + 1)), (wrap64 (x7_2 + 1)), (by rfl), (by rfl), H', ⟨by have := HK1.out; have := HK2.out; omega⟩, by repeat (first | exact Drawn0.refl _ | apply Drawn0.step)⟩
       ·rw [if_neg c8] at H
        have c8b0 : (((rd_T143 ((rd_T86 l0 x6_1).f4) x7_2).f1) == a1) = false := beq_eq_false_iff_ne.mpr c8
        have c8b1 : (((rd_T143 ((rd_T86 l0 x6_1).f4) x7_2).f1) != a1) = true := bne_iff_ne.mpr c8
        have H' := Am H
        clear H
        have p691 : 0 ≤ (x6_1 : Int) := od (by assumption)
        have q691 : x6_1 < (l0.length : Int) := od (by assumption)
        obtain ⟨ad691, A691_3, c691_3, A691_4, c691_4, e691, hx691_0, hx691_1, hx691_2, hx691_3, hx691_4, hl691_3, hi691_3, hl691_4, hi691_4⟩ := at_T86 HR0.out x6_1 p691 q691
        cases e691
        have HR691_3 := Am hi691_3
        have HC691_3 := Am hl691_3
        clear hi691_3 hl691_3
        have HR691_4 := Am hi691_4
        have HC691_4 := Am hl691_4
        clear hi691_4 hl691_4
        replace p691 := eq_true p691
        replace q691 := eq_true q691
        have p692 : 0 ≤ (x6_1 : Int) := od (by assumption)
        have q692 : x6_1 < (l0.length : Int) := od (by assumption)
        obtain ⟨ad692, A692_3, c692_3, A692_4, c692_4, e692, hx692_0, hx692_1, hx692_2, hx692_3, hx692_4, hl692_3, hi692_3, hl692_4, hi692_4⟩ := at_T86 HR0.out x6_1 p692 q692
        obtain rfl : ad691 = ad692 := (by injection e692)
        have HR692_3 := Am hi692_3
        have HC692_3 := Am hl692_3
        clear hi692_3 hl692_3
        have HR692_4 := Am hi692_4
        have HC692_4 := Am hl692_4
        clear hi692_4 hl692_4
        replace p692 := eq_true p692
        replace q692 := eq_true q692
        have ea_ := Option.some.inj (hx691_3.symm.trans hx692_3)
        injection ea_ with ea_ en_ ec_
        subst ea_
        subst ec_
        clear en_
        have ea_ := Option.some.inj (hx691_4.symm.trans hx692_4)
        injection ea_ with ea_ en_ ec_
        subst ea_
        subst ec_
        clear en_
        have p693 : 0 ≤ (x7_2 : Int) := od (by assumption)
        have q693 : x7_2 < (((rd_T86 l0 x6_1).f4).length : Int) := od (by assumption)
        obtain ⟨ad693, e693, hx693_0, hx693_1⟩ := at_T143 HR692_4.out x7_2 p693 q693
        cases e693
        replace p693 := eq_true p693
        replace q693 := eq_true q693
        go_wp2
        go_roundg k2
        case measure => have := HK1.out; have := HK2.out; omega
        case rel => exact ⟨(x5_2), (wrap64 (x7_2 + 1)), (by rfl), (by rfl), H', ⟨by have := HK1.out; have := HK2.out; omega⟩, by repeat (first | exact Drawn0.refl _ | apply Drawn0.step)⟩
      ·rw [if_neg c6] at H
       have c6b0 : decide (x7_2 < (((rd_T86 l0 x6_1).f4).length : Int)) = false := decide_eq_false c6
       clear c6
       have H' := Am H
       clear H
       have p691 : 0 ≤ (x6_1 : Int) := od (by assumption)
       have q691 : x6_1 < (l0.length : Int) := od (by assumption)
       obtain ⟨ad691, A691_3, c691_3, A691_4, c691_4, e691, hx691_0, hx691_1, hx691_2, hx691_3, hx691_4, hl691_3, hi691_3, hl691_4, hi691_4⟩ := at_T86 HR0.out x6_1 p691 q691
       cases e691
       have HR691_3 := Am hi691_3
       have HC691_3 := Am hl691_3
       clear hi691_3 hl691_3
       have HR691_4 := Am hi691_4
       have HC691_4 := Am hl691_4
       clear hi691_4 hl691_4
       replace p691 := eq_true p691
       replace q691 := eq_true q691
       go_wp2
       go_roundg k2
       case measure => have := HK1.out; have := HK2.out; omega
       case rel => exact ⟨(x5_2), (wrap64 (x6_1 + 1)), (by rfl), (by rfl), H', ⟨by have := HK1.out; have := HK2.out; omega⟩, by repeat (first | exact Drawn0.refl _ | apply Drawn0.step)⟩
   ·rw [if_neg c3] at H
    have c3b0 : decide (x6_1 < (l0.length : Int)) = false := decide_eq_false c3
    clear c3
    obtain rfl := Option.some.inj H
    go_wp2
    go_ret
    exact ⟨by rfl, by repeat (first | exact Drawn0.refl _ | apply Drawn0.step)⟩
end Go.Proofs.YtafhjhdohclchaaGreatDoor.G
namespace Go.Proofs.YtafhjhdohclchaaGreatDoor.G
open Go.RowKit Go.Proofs.YtafhjhdohclchaaGreatDoorW.PrintWords Go.Proofs.YtafhjhdohclchaaGreatDoorW.PrintLast Go.Proofs.YtafhjhdohclchaaGreatDoorW.PrintMore
attribute [local go_sem] min2_int min_two
attribute [local go_sem high] str_leq
attribute [local go_sem] binOp_string_geq
mutual
def q28.l0 : Nat → List Bool → Int → List (S86) → List (List Int) → Option (List Int)
 | 0, _, _, _, _ => none
 | k + 1, x3, x4, x1000, x1001 => if x4 < (x1000.length : Int) then (q28.l1 k x3 x4 0 x1000 x1001) else (q28.l3 k x3 (([] : List Int)) 0)
def q28.l1 : Nat → List Bool → Int → Int → List (S86) → List (List Int) → Option (List Int)
 | 0, _, _, _, _, _ => none
 | k + 1, x3, x4, x5, x1000, x1001 => if x5 < (x1000.length : Int) then (q28.l2 k x3 x4 x5 0 x1000 x1001) else (q28.l0 k x3 (wrap64 (x4 + 1)) x1000 x1001)
def q28.l2 : Nat → List Bool → Int → Int → Int → List (S86) → List (List Int) → Option (List Int)
 | 0, _, _, _, _, _, _ => none
 | k + 1, x3, x4, x5, x6, x1000, x1001 => if 0 ≤ x5 then (if x5 < (x3.length : Int) then (if rdOf false x3 x5 = true then (if x5 < (x1000.length : Int) then (if x6 < (((rd_T86 x1000 x5).f4).length : Int) then (if 0 ≤ x6 then (if 0 ≤ ((rd_T143 ((rd_T86 x1000 x5).f4) x6).f1) then (if ((rd_T143 ((rd_T86 x1000 x5).f4) x6).f1) < (x3.length : Int) then (q28.l2 k (x3.set (((rd_T143 ((rd_T86 x1000 x5).f4) x6).f1) : Int).toNat true) x4 x5 (wrap64 (x6 + 1)) x1000 x1001) else (none)) else (none)) else (none)) else (q28.l1 k x3 x4 (wrap64 (x5 + 1)) x1000 x1001)) else (none)) else (q28.l1 k x3 x4 (wrap64 (x5 + 1)) x1000 x1001)) else (none)) else (none)
def q28.l3 : Nat → List Bool → List Int → Int → Option (List Int)
 | 0, _, _, _ => none
 | k + 1, x3, x7, x8 => if x8 < (x3.length : Int) then (if 0 ≤ x8 then (if rdOf false x3 x8 = true then (if x7.length < 17592186044416 then (q28.l3 k x3 (x7 ++ [x8]) (wrap64 (x8 + 1))) else (none)) else (q28.l3 k x3 x7 (wrap64 (x8 + 1)))) else (none)) else (some x7)
end
def q28.f (k : Nat) (s0_0 : List (S86)) (s0_1 : List (List Int)) : Option (List Int) := if 0 ≤ (s0_0.length : Int) then (if ((s0_0.length : Int) : Int).toNat ≤ 281474976710656 then ((some (List.replicate ((s0_0.length : Int) : Int).toNat false : List Bool)).bind fun y675 => (if 0 < (y675.length : Int) then (q28.l0 k (y675.set (0 : Int).toNat true) 0 s0_0 s0_1) else (none))) else (none)) else (none)
theorem q28.mono_l : ∀ k, (∀ y0 y1 y2 y3, LeO (q28.l0 k y0 y1 y2 y3) (q28.l0 (k + 1) y0 y1 y2 y3)) ∧ (∀ y0 y1 y2 y3 y4, LeO (q28.l1 k y0 y1 y2 y3 y4) (q28.l1 (k + 1) y0 y1 y2 y3 y4)) ∧ (∀ y0 y1 y2 y3 y4 y5, LeO (q28.l2 k y0 y1 y2 y3 y4 y5) (q28.l2 (k + 1) y0 y1 y2 y3 y4 y5)) ∧ (∀ y0 y1 y2, LeO (q28.l3 k y0 y1 y2) (q28.l3 (k + 1) y0 y1 y2))
 | 0 => ⟨fun _ _ _ _ r h => by simp [q28.l0] at h, fun _ _ _ _ _ r h => by simp [q28.l1] at h, fun _ _ _ _ _ _ r h => by simp [q28.l2] at h, fun _ _ _ r h => by simp [q28.l3] at h⟩
 | k + 1 => by
  obtain ⟨ih0, ih1, ih2, ih3⟩ := q28.mono_l k
  refine ⟨?_, ?_, ?_, ?_⟩
  ·intro y0 y1 y2 y3
   unfold q28.l0
   repeat' first | (with_reducible exact ih1 _ _ _ _ _) | (with_reducible exact ih3 _ _ _) | (with_reducible refine LeO.ite ?_ ?_)
  ·intro y0 y1 y2 y3 y4
   unfold q28.l1
   repeat' first | (with_reducible exact ih0 _ _ _ _) | (with_reducible exact ih2 _ _ _ _ _ _) | (with_reducible refine LeO.ite ?_ ?_)
  ·intro y0 y1 y2 y3 y4 y5
   unfold q28.l2
   repeat' first | (with_reducible exact ih1 _ _ _ _ _) | (with_reducible exact ih2 _ _ _ _ _ _) | (with_reducible exact LeO.refl _) | (with_reducible refine LeO.ite ?_ ?_)
  ·intro y0 y1 y2
   unfold q28.l3
   repeat' first | (with_reducible exact ih3 _ _ _) | (with_reducible exact LeO.refl _) | (with_reducible refine LeO.ite ?_ ?_)
theorem q28.mono : ∀ a0 a1 k, LeO (q28.f k a0 a1) (q28.f (k + 1) a0 a1) := by
 intro a0 a1 k
 obtain ⟨ih0, ih1, ih2, ih3⟩ := q28.mono_l k
 unfold q28.f
 repeat' first | (with_reducible exact ih0 _ _ _ _) | (with_reducible exact LeO.refl _) | (with_reducible refine LeO.ite ?_ ?_) | (with_reducible refine LeO.bind ?_ (fun _ => ?_))
set_option maxHeartbeats 8000000 in
set_option maxRecDepth 100000 in
theorem q28.calls (k : Nat) (g : Nat) (s0_0 : List (S86)) (s0_1 : List (List Int)) (r : List Int) (w0 w : World) (hI : IsS28 w0 w g s0_0 s0_1) (hB : Below w0.heap.size w0 w) (h : q28.f k s0_0 s0_1 = some r) :
  Calls Tryz.prog 196 #[.pointer (some ⟨g, 0, none⟩)] w fun e w' => ∃ v0_ : Value, e = .returned (v0_) ∧ Kd.R (Kd.int .i64) 2 w' w.heap.size (fun _ => True) v0_ r ∧ IsS28 w0 w' g s0_0 s0_1 ∧ Below w0.heap.size w0 w' ∧ KeepBut w w' g none := by
 have HI0 := Am hI
 have HK := Am (KeepBut.refl w g none)
 have HL := Am hB.size
 clear hI
 have HW0 := Am hB.size
 have HB := Am hB
 clear hB
 have H : (if 0 ≤ (s0_0.length : Int) then (if ((s0_0.length : Int) : Int).toNat ≤ 281474976710656 then ((some (List.replicate ((s0_0.length : Int) : Int).toNat false : List Bool)).bind fun y675 => (if 0 < (y675.length : Int) then (q28.l0 k (y675.set (0 : Int).toNat true) 0 s0_0 s0_1) else (none))) else (none)) else (none)) = some r := h
 clear h
 replace H := ino H
 obtain ⟨c2, H⟩ := H
 have c2b0 := eq_true c2
 have c2b1 : decide (0 ≤ (s0_0.length : Int)) = true := decide_eq_true c2
 clear c2
 replace H := ino H
 obtain ⟨c3, H⟩ := H
 have c3b0 := eq_true c3
 have c3b1 : decide (((s0_0.length : Int) : Int).toNat ≤ 281474976710656) = true := decide_eq_true c3
 clear c3
 obtain ⟨y675, hy675⟩ : ∃ y_ : List Bool, y_ = (List.replicate ((s0_0.length : Int) : Int).toNat false) := ⟨_, rfl⟩
 replace H : (if 0 < (y675.length : Int) then (q28.l0 k (y675.set (0 : Int).toNat true) 0 s0_0 s0_1) else (none)) = some r := by (have H2_ := (Option.bind_some _ _).symm.trans H; rw [hy675]; with_reducible exact H2_)
 have Ny675 := Am hy675
 clear hy675
 replace H := ino H
 obtain ⟨c4, H⟩ := H
 have c4b0 : decide (0 < (y675.length : Int)) = true := decide_eq_true c4
 have c4b1 : decide (0 < y675.length) = true := decide_eq_true (by omega)
 clear c4
 obtain ⟨y678, hy678⟩ : ∃ y_ : List Bool, y_ = (y675.set (0 : Int).toNat true) := ⟨_, rfl⟩
 replace H : (q28.l0 k y678 0 s0_0 s0_1) = some r := by (rw [hy678]; with_reducible exact H)
 have Ny678 := Am hy678
 clear hy678
 have H' := Am H
 clear H
 obtain ⟨ASz6_0, cSz6_0, ASz6_1, cSz6_1, HGz6, hgz6, HSz6_0, HSz6_1⟩ := HI0.out
 have hcz6_0 := cellS28_0 HGz6
 have hcz6_1 := cellS28_1 HGz6
 clear HGz6 hgz6
 go_enter Tryz.func196, Tryz.ntmps196
 go_wp2_with (first | ((with_reducible refine gate_dst (N := 14) rfl ?_); (try (refine gate_guard (by rfl) ?_; dsimp only)); refine Kd.R_make Kd.bool _ 4 rfl (N := 14) rfl 252 _ _ rfl (s0_0.length : Int) rfl rfl Tryz.underlying252 (.bool false) 1 info4 rfl (by decide) (by omega) false (ok := fun _ => True) (okp := fun _ => True) rfl (fun _ hk => hk) trivial (od (by assumption)) (Nat.le_trans (Nat.mul_le_mul_right _ (od (by assumption) : (s0_0.length : Int).toNat ≤ 281474976710656)) (by omega)) (Below.refl _ _) (Nat.le_refl _) ?_; intro v676 w7 ho8 hb hg_ hnew_; clear hg_ hnew_; (rw [← Ny675.out] at ho8); have HO677 := Am (Kd.R_lower ho8 (keep_size (w := w) (g := g) (row := none) HK.out)); replace HI0 := Am (IsS28.below HI0.out hb); replace HK := Am (KeepBut.trans HK.out (KeepBut.of_below hb g none) (.inl rfl)); replace HB := Am (below_step HB.out hb); clear hb ho8; have p5 : 0 ≤ (0 : Int) := (by omega); have q5 : (0 : Int) < ((y675.length : Int) : Int) := od (by assumption); have qi5 : (0 < y675.length) = True := eq_true (by omega); obtain ⟨go5, co5, eo5, gb5, gl5, cl5, HG5⟩ := Kd.R_form HO677.out (by omega); (cases eo5); have GB5 := Am gb5; have GG5 := Am HG5; clear gb5 gl5 HG5; obtain ⟨hx5_0, hf5_0⟩ := Kd.R_celln false HO677.out (0 : Int) p5 q5; (try rw [show ((0 : Int)).toNat = 0 from rfl] at hx5_0); (try rw [show ((0 : Int)).toNat = 0 from rfl] at hf5_0); replace p5 := eq_true p5; replace q5 := eq_true q5; obtain ⟨hy9_, hz9_⟩ := Kd.R_celln false HO677.out (0 : Int) (by omega) (od (by assumption)); (try rw [show ((0 : Int)).toNat = 0 from rfl] at hy9_); (try rw [show ((0 : Int)).toNat = 0 from rfl] at hz9_); have HP9 := Kd.R_putg HO677.out (0 : Int) true) | ((with_reducible refine gate_store (t := 4) (p := 16) rfl ?_); refine store_event (t := 4) (p := 16) (v := ?vo_w10) (w1 := (w7.setCell ⟨go5, (0 : Int).toNat, none⟩ (.bool true))) ?hg ?ho ?hn ?hr ?_; (case ho => rfl); (case hg => rfl); (case hn => rfl); (case hr => (go_simp; done)); intro w10 hw; have hg : w7.grownBy w10 (some go5) := (by rw [hw]; exact HP9.2); have hp_ : Kd.R Kd.bool 4 w10 w.heap.size (fun _ => True) (.slice (some ⟨go5, 0, none⟩) y675.length co5) y678 := (by rw [hw, Ny678.out]; exact HP9.1); clear HP9; replace HI0 := Am (IsS28.grown (show IsS28 w0 _ g s0_0 s0_1 from HI0.out) hg (IsS28.own_ne HI0.out HO677.out (by decide))); replace HB := Am ((by rw [hw]; exact below_set (HB.out) (Nat.le_trans HL.out GB5.out) : Below w0.heap.size w0 w10)); replace HK := Am (KeepBut.trans HK.out (KeepBut.of_grown hg g) (Kd.R_base2 HO677.out)); replace HO677 := Am hp_; clear hg hw hp_))
 go_loopg [4] k (fun kq v4 w' => ∃ (x3_1 : List Bool) (x4_1 : Int), v4 = .int .i64 x4_1 ∧ Aside0 (q28.l0 kq x3_1 x4_1 s0_0 s0_1 = some r) ∧ Aside0 (kq ≤ k) ∧ Aside0 (Kd.R Kd.bool 4 w' w.heap.size (fun _ => True) (.slice (some ⟨go5, 0, none⟩) y675.length co5) x3_1) ∧ Aside0 (IsS28 w0 w' g s0_0 s0_1) ∧ Aside0 (KeepBut w w' g none) ∧ Aside0 (Below w0.heap.size w0 w'))
 case atStart => exact ⟨(y678), (0), (by rfl), H', ⟨Nat.le_refl _⟩, ⟨by exact HO677.out⟩, ⟨HI0.out⟩, ⟨HK.out⟩, ⟨HB.out⟩⟩
 case round =>
  clear H'
  try clear c2b0
  try clear c2b1
  try clear c3b0
  try clear c3b1
  try clear c4b0
  try clear c4b1
  try clear p5
  try clear q5
  try clear qi5
  try clear hcz6_0
  try clear hcz6_1
  try clear hx5_0
  obtain ⟨x3_1, x4_1, rfl, HA, HK1, HO_3, HI0, HK, HB⟩ := hrel
  have hl3_1 := (Kd.R_reads' HO_3.out).1
  rw [hl3_1] at HO_3
  (try simp only [hl3_1])
  cases gk with
  | zero => exact absurd HA.out (by simp [q28.l0])
  | succ k1 =>
   have H := HA.out
   clear HA
   simp only [q28.l0] at H
   by_cases c11 : x4_1 < (s0_0.length : Int)
   ·rw [if_pos c11] at H
    have c11b0 : decide (x4_1 < (s0_0.length : Int)) = true := decide_eq_true c11
    clear c11
    have H' := Am H
    clear H
    obtain ⟨ASz12_0, cSz12_0, ASz12_1, cSz12_1, HGz12, hgz12, HSz12_0, HSz12_1⟩ := HI0.out
    have hcz12_0 := cellS28_0 HGz12
    have hcz12_1 := cellS28_1 HGz12
    clear HGz12 hgz12
    go_wp2
    go_loopg [5] k1 (fun kq v5 w' => ∃ (x3_2 : List Bool) (x5_2 : Int), v5 = .int .i64 x5_2 ∧ Aside0 (q28.l1 kq x3_2 x4_1 x5_2 s0_0 s0_1 = some r) ∧ Aside0 (kq ≤ k1) ∧ Aside0 (Kd.R Kd.bool 4 w' w.heap.size (fun _ => True) (.slice (some ⟨go5, 0, none⟩) x3_1.length co5) x3_2) ∧ Aside0 (IsS28 w0 w' g s0_0 s0_1) ∧ Aside0 (KeepBut w w' g none) ∧ Aside0 (Below w0.heap.size w0 w'))
    case atStart => exact ⟨(x3_1), (0), (by rfl), H', ⟨Nat.le_refl _⟩, ⟨by exact HO_3.out⟩, ⟨HI0.out⟩, ⟨HK.out⟩, ⟨HB.out⟩⟩
    case round =>
     clear H'
     try clear c11b0
     try clear hcz12_0
     try clear hcz12_1
     obtain ⟨x3_2, x5_2, rfl, HA, HK2, HO_3, HI0, HK, HB⟩ := hrel
     have hl3_2 := (Kd.R_reads' HO_3.out).1
     rw [hl3_2] at HO_3
     (try simp only [hl3_2])
     cases gk with
     | zero => exact absurd HA.out (by simp [q28.l1])
     | succ k2 =>
      have H := HA.out
      clear HA
      simp only [q28.l1] at H
      by_cases c13 : x5_2 < (s0_0.length : Int)
      ·rw [if_pos c13] at H
       have c13b0 : decide (x5_2 < (s0_0.length : Int)) = true := decide_eq_true c13
       clear c13
       have H' := Am H
       clear H
       obtain ⟨ASz14_0, cSz14_0, ASz14_1, cSz14_1, HGz14, hgz14, HSz14_0, HSz14_1⟩ := HI0.out
       have hcz14_0 := cellS28_0 HGz14
       have hcz14_1 := cellS28_1 HGz14
       clear HGz14 hgz14
       go_wp2
       go_loopg [6] k2 (fun kq v6 w' => ∃ (x3_3 : List Bool) (x6_3 : Int), v6 = .int .i64 x6_3 ∧ Aside0 (q28.l2 kq x3_3 x4_1 x5_2 x6_3 s0_0 s0_1 = some r) ∧ Aside0 (kq ≤ k2) ∧ Aside0 (Kd.R Kd.bool 4 w' w.heap.size (fun _ => True) (.slice (some ⟨go5, 0, none⟩) x3_2.length co5) x3_3) ∧ Aside0 (IsS28 w0 w' g s0_0 s0_1) ∧ Aside0 (KeepBut w w' g none) ∧ Aside0 (Below w0.heap.size w0 w'))
       case atStart => exact ⟨(x3_2), (0), (by rfl), H', ⟨Nat.le_refl _⟩, ⟨by exact HO_3.out⟩, ⟨HI0.out⟩, ⟨HK.out⟩, ⟨HB.out⟩⟩
       case round =>
        clear H'
        try clear c13b0
        try clear hcz14_0
        try clear hcz14_1
        obtain ⟨x3_3, x6_3, rfl, HA, HK3, HO_3, HI0, HK, HB⟩ := hrel
        have hl3_3 := (Kd.R_reads' HO_3.out).1
        rw [hl3_3] at HO_3
        (try simp only [hl3_3])
        cases gk with
        | zero => exact absurd HA.out (by simp [q28.l2])
        | succ k3 =>
         have H := HA.out
         clear HA
         simp only [q28.l2] at H
         replace H := ino H
         obtain ⟨c15, H⟩ := H
         have c15b0 : decide (0 ≤ x5_2) = true := decide_eq_true c15
         clear c15
         replace H := ino H
         obtain ⟨c16, H⟩ := H
         have c16b0 : decide (x5_2 < (x3_3.length : Int)) = true := decide_eq_true c16
         clear c16
         obtain ⟨bq17, hbq17⟩ : ∃ b_ : Bool, b_ = (rdOf false x3_3 x5_2) := ⟨_, rfl⟩
         replace H : (if bq17 = true then (if x5_2 < (s0_0.length : Int) then (if x6_3 < (((rd_T86 s0_0 x5_2).f4).length : Int) then (if 0 ≤ x6_3 then (if 0 ≤ ((rd_T143 ((rd_T86 s0_0 x5_2).f4) x6_3).f1) then (if ((rd_T143 ((rd_T86 s0_0 x5_2).f4) x6_3).f1) < (x3_3.length : Int) then (q28.l2 k3 (x3_3.set (((rd_T143 ((rd_T86 s0_0 x5_2).f4) x6_3).f1) : Int).toNat true) x4_1 x5_2 (wrap64 (x6_3 + 1)) s0_0 s0_1) else (none)) else (none)) else (none)) else (q28.l1 k3 x3_3 x4_1 (wrap64 (x5_2 + 1)) s0_0 s0_1)) else (none)) else (q28.l1 k3 x3_3 x4_1 (wrap64 (x5_2 + 1)) s0_0 s0_1)) = some r := by rw [← hbq17] at H; exact H
         have Nbq17 := Am hbq17
         clear hbq17
         by_cases c18 : bq17 = true
         ·subst c18
          have H1 : (if x5_2 < (s0_0.length : Int) then (if x6_3 < (((rd_T86 s0_0 x5_2).f4).length : Int) then (if 0 ≤ x6_3 then (if 0 ≤ ((rd_T143 ((rd_T86 s0_0 x5_2).f4) x6_3).f1) then (if ((rd_T143 ((rd_T86 s0_0 x5_2).f4) x6_3).f1) < (x3_3.length : Int) then (q28.l2 k3 (x3_3.set (((rd_T143 ((rd_T86 s0_0 x5_2).f4) x6_3).f1) : Int).toNat true) x4_1 x5_2 (wrap64 (x6_3 + 1)) s0_0 s0_1) else (none)) else (none)) else (none)) else (q28.l1 k3 x3_3 x4_1 (wrap64 (x5_2 + 1)) s0_0 s0_1)) else (none)) = some r := by rw [if_pos rfl] at H; exact H
          clear H
          have H := H1
          clear H1
          replace H := ino H
          obtain ⟨c19, H⟩ := H
          have c19b0 : decide (x5_2 < (s0_0.length : Int)) = true := decide_eq_true c19
          clear c19
          by_cases c20 : x6_3 < (((rd_T86 s0_0 x5_2).f4).length : Int)
          ·rw [if_pos c20] at H
           have c20b0 : decide (x6_3 < (((rd_T86 s0_0 x5_2).f4).length : Int)) = true := decide_eq_true c20
           clear c20
           replace H := ino H
           obtain ⟨c21, H⟩ := H
           have c21b0 : decide (0 ≤ x6_3) = true := decide_eq_true c21
           clear c21
           replace H := ino H
           obtain ⟨c22, H⟩ := H
           have c22b0 : decide (0 ≤ ((rd_T143 ((rd_T86 s0_0 x5_2).f4) x6_3).f1)) = true := decide_eq_true c22
           clear c22
           replace H := ino H
           obtain ⟨c23, H⟩ := H
           have c23b0 : decide (((rd_T143 ((rd_T86 s0_0 x5_2).f4) x6_3).f1) < (x3_3.length : Int)) = true := decide_eq_true c23
           clear c23
           obtain ⟨y683, hy683⟩ : ∃ y_ : List Bool, y_ = (x3_3.set (((rd_T143 ((rd_T86 s0_0 x5_2).f4) x6_3).f1) : Int).toNat true) := ⟨_, rfl⟩
           replace H : (q28.l2 k3 y683 x4_1 x5_2 (wrap64 (x6_3 + 1)) s0_0 s0_1) = some r := by (rw [hy683]; with_reducible exact H)
           have Ny683 := Am hy683
           clear hy683
           have H' := Am H
           clear H
           have p679 : 0 ≤ (x5_2 : Int) := od (by assumption)
           have q679 : x5_2 < (x3_3.length : Int) := od (by assumption)
           obtain ⟨ad679, e679, hx679_0⟩ := Kd.at_bool (Kd.R_reads' HO_3.out).2.2 x5_2 p679 q679
           (try rw [← Nbq17.out] at hx679_0)
           obtain rfl : (⟨go5, 0, none⟩ : Addr) = ad679 := (by injection e679)
           (simp only [add_plain] at hx679_0)
           replace p679 := eq_true p679
           replace q679 := eq_true q679
           obtain ⟨ASz25_0, cSz25_0, ASz25_1, cSz25_1, HGz25, hgz25, HSz25_0, HSz25_1⟩ := HI0.out
           have hcz25_0 := cellS28_0 HGz25
           have hcz25_1 := cellS28_1 HGz25
           clear HGz25 hgz25
           have p680 : 0 ≤ (x5_2 : Int) := od (by assumption)
           have q680 : x5_2 < (s0_0.length : Int) := od (by assumption)
           obtain ⟨ad680, A680_3, c680_3, A680_4, c680_4, e680, hx680_0, hx680_1, hx680_2, hx680_3, hx680_4, hl680_3, hi680_3, hl680_4, hi680_4⟩ := at_T86 HSz25_0.1 x5_2 p680 q680
           cases e680
           replace hx680_0 := pcb HB.out hx680_0
           replace hx680_1 := pcb HB.out hx680_1
           replace hx680_2 := pcb HB.out hx680_2
           replace hx680_3 := pcb HB.out hx680_3
           replace hx680_4 := pcb HB.out hx680_4
           have HR680_3 := Am hi680_3
           have HC680_3 := Am hl680_3
           clear hi680_3 hl680_3
           have HR680_4 := Am hi680_4
           have HC680_4 := Am hl680_4
           clear hi680_4 hl680_4
           replace p680 := eq_true p680
           replace q680 := eq_true q680
           have p681 : 0 ≤ (x5_2 : Int) := od (by assumption)
           have q681 : x5_2 < (s0_0.length : Int) := od (by assumption)
           obtain ⟨ad681, A681_3, c681_3, A681_4, c681_4, e681, hx681_0, hx681_1, hx681_2, hx681_3, hx681_4, hl681_3, hi681_3, hl681_4, hi681_4⟩ := at_T86 HSz25_0.1 x5_2 p681 q681
           obtain rfl : ad680 = ad681 := (by injection e681)
           replace hx681_0 := pcb HB.out hx681_0
           replace hx681_1 := pcb HB.out hx681_1
           replace hx681_2 := pcb HB.out hx681_2
           replace hx681_3 := pcb HB.out hx681_3
           replace hx681_4 := pcb HB.out hx681_4
           have HR681_3 := Am hi681_3
           have HC681_3 := Am hl681_3
           clear hi681_3 hl681_3
           have HR681_4 := Am hi681_4
           have HC681_4 := Am hl681_4
           clear hi681_4 hl681_4
           replace p681 := eq_true p681
           replace q681 := eq_true q681
           have ea_ := Option.some.inj (hx680_3.symm.trans hx681_3)
           injection ea_ with ea_ en_ ec_
           subst ea_
           subst ec_
           clear en_
           have ea_ := Option.some.inj (hx680_4.symm.trans hx681_4)
           injection ea_ with ea_ en_ ec_
           subst ea_
           subst ec_
           clear en_
           have p682 : 0 ≤ (x6_3 : Int) := od (by assumption)
           have q682 : x6_3 < (((rd_T86 s0_0 x5_2).f4).length : Int) := od (by assumption)
           obtain ⟨ad682, e682, hx682_0, hx682_1⟩ := at_T143 HR681_4.out x6_3 p682 q682
           cases e682
           replace hx682_0 := pcb HB.out hx682_0
           replace hx682_1 := pcb HB.out hx682_1
           replace p682 := eq_true p682
           replace q682 := eq_true q682
           have p24 : 0 ≤ (((rd_T143 ((rd_T86 s0_0 x5_2).f4) x6_3).f1) : Int) := od (by assumption)
           have q24 : (((rd_T143 ((rd_T86 s0_0 x5_2).f4) x6_3).f1) : Int) < ((x3_3.length : Int) : Int) := od (by assumption)
           obtain ⟨hx24_0, hf24_0⟩ := Kd.R_celln false HO_3.out (((rd_T143 ((rd_T86 s0_0 x5_2).f4) x6_3).f1) : Int) p24 q24
           replace p24 := eq_true p24
           replace q24 := eq_true q24
           have HP26 := Kd.R_putg HO_3.out (((rd_T143 ((rd_T86 s0_0 x5_2).f4) x6_3).f1) : Int) true
           go_wp2_with (((with_reducible refine gate_store (t := 4) (p := 67) rfl ?_); refine store_event (t := 4) (p := 67) (v := ?vo_w27) (w1 := (wr.setCell ⟨go5, (((rd_T143 ((rd_T86 s0_0 x5_2).f4) x6_3).f1) : Int).toNat, none⟩ (.bool true))) ?hg ?ho ?hn ?hr ?_; (case ho => rfl); (case hg => rfl); (case hn => rfl); (case hr => (go_simp; done)); intro w27 hw; have hg : wr.grownBy w27 (some go5) := (by rw [hw]; exact HP26.2); have hp_ : Kd.R Kd.bool 4 w27 w.heap.size (fun _ => True) (.slice (some ⟨go5, 0, none⟩) x3_3.length co5) y683 := (by rw [hw, Ny683.out]; exact HP26.1); clear HP26; replace HI0 := Am (IsS28.grown (show IsS28 w0 _ g s0_0 s0_1 from HI0.out) hg (IsS28.own_ne HI0.out HO_3.out (by decide))); replace HB := Am ((by rw [hw]; exact below_set (HB.out) (Nat.le_trans HL.out GB5.out) : Below w0.heap.size w0 w27)); replace HK := Am (KeepBut.trans HK.out (KeepBut.of_grown hg g) (Kd.R_base2 HO_3.out)); replace HO_3 := Am hp_; clear hg hw hp_))
           (try simp only [← hl3_3])
           go_roundg k3
           case measure => have := HK1.out; have := HK2.out; have := HK3.out; omega
           case rel => exact ⟨(y683), (wrap64 (x6_3 + 1)), (by rfl), H', ⟨by have := HK1.out; have := HK2.out; have := HK3.out; omega⟩, ⟨by (try simp only [hl3_3]); exact HO_3.out⟩, ⟨HI0.out⟩, ⟨HK.out⟩, ⟨HB.out⟩⟩
          ·rw [if_neg c20] at H
           have c20b0 : decide (x6_3 < (((rd_T86 s0_0 x5_2).f4).length : Int)) = false := decide_eq_false c20
           clear c20
           have H' := Am H
           clear H
           have p679 : 0 ≤ (x5_2 : Int) := od (by assumption)
           have q679 : x5_2 < (x3_3.length : Int) := od (by assumption)
           obtain ⟨ad679, e679, hx679_0⟩ := Kd.at_bool (Kd.R_reads' HO_3.out).2.2 x5_2 p679 q679
           (try rw [← Nbq17.out] at hx679_0)
           obtain rfl : (⟨go5, 0, none⟩ : Addr) = ad679 := (by injection e679)
           (simp only [add_plain] at hx679_0)
           replace p679 := eq_true p679
           replace q679 := eq_true q679
           obtain ⟨ASz28_0, cSz28_0, ASz28_1, cSz28_1, HGz28, hgz28, HSz28_0, HSz28_1⟩ := HI0.out
           have hcz28_0 := cellS28_0 HGz28
           have hcz28_1 := cellS28_1 HGz28
           clear HGz28 hgz28
           have p680 : 0 ≤ (x5_2 : Int) := od (by assumption)
           have q680 : x5_2 < (s0_0.length : Int) := od (by assumption)
           obtain ⟨ad680, A680_3, c680_3, A680_4, c680_4, e680, hx680_0, hx680_1, hx680_2, hx680_3, hx680_4, hl680_3, hi680_3, hl680_4, hi680_4⟩ := at_T86 HSz28_0.1 x5_2 p680 q680
           cases e680
           replace hx680_0 := pcb HB.out hx680_0
           replace hx680_1 := pcb HB.out hx680_1
           replace hx680_2 := pcb HB.out hx680_2
           replace hx680_3 := pcb HB.out hx680_3
           replace hx680_4 := pcb HB.out hx680_4
           have HR680_3 := Am hi680_3
           have HC680_3 := Am hl680_3
           clear hi680_3 hl680_3
           have HR680_4 := Am hi680_4
           have HC680_4 := Am hl680_4
           clear hi680_4 hl680_4
           replace p680 := eq_true p680
           replace q680 := eq_true q680
           go_wp2
           (try simp only [← hl3_2, ← hl3_3])
           go_roundg k3
           case measure => have := HK1.out; have := HK2.out; have := HK3.out; omega
           case rel => exact ⟨(x3_3), (wrap64 (x5_2 + 1)), (by rfl), H', ⟨by have := HK1.out; have := HK2.out; have := HK3.out; omega⟩, ⟨by (try simp only [hl3_2]); (try simp only [hl3_3]); exact HO_3.out⟩, ⟨HI0.out⟩, ⟨HK.out⟩, ⟨HB.out⟩⟩
         ·replace c18 := Bool.eq_false_iff.mpr c18
          subst c18
          have H1 : (q28.l1 k3 x3_3 x4_1 (wrap64 (x5_2 + 1)) s0_0 s0_1) = some r := by rw [if_neg (show ¬ (false = true) by decide)] at H; exact H
          clear H
          have H := H1
          clear H1
          have H' := Am H
          clear H
          have p679 : 0 ≤ (x5_2 : Int) := od (by assumption)
          have q679 : x5_2 < (x3_3.length : Int) := od (by assumption)
          obtain ⟨ad679, e679, hx679_0⟩ := Kd.at_bool (Kd.R_reads' HO_3.out).2.2 x5_2 p679 q679
          (try rw [← Nbq17.out] at hx679_0)
          obtain rfl : (⟨go5, 0, none⟩ : Addr) = ad679 := (by injection e679)
          (simp only [add_plain] at hx679_0)
          replace p679 := eq_true p679
          replace q679 := eq_true q679
          go_wp2
          (try simp only [← hl3_2, ← hl3_3])
          go_roundg k3
          case measure => have := HK1.out; have := HK2.out; have := HK3.out; omega
          case rel => exact ⟨(x3_3), (wrap64 (x5_2 + 1)), (by rfl), H', ⟨by have := HK1.out; have := HK2.out; have := HK3.out; omega⟩, ⟨by (try simp only [hl3_2]); (try simp only [hl3_3]); exact HO_3.out⟩, ⟨HI0.out⟩, ⟨HK.out⟩, ⟨HB.out⟩⟩
      ·rw [if_neg c13] at H
       have c13b0 : decide (x5_2 < (s0_0.length : Int)) = false := decide_eq_false c13
       clear c13
       have H' := Am H
       clear H
       obtain ⟨ASz29_0, cSz29_0, ASz29_1, cSz29_1, HGz29, hgz29, HSz29_0, HSz29_1⟩ := HI0.out
       have hcz29_0 := cellS28_0 HGz29
       have hcz29_1 := cellS28_1 HGz29
       clear HGz29 hgz29
       go_wp2
       (try simp only [← hl3_1, ← hl3_2])
       go_roundg k2
       case measure => have := HK1.out; have := HK2.out; omega
       case rel => exact ⟨(x3_2), (wrap64 (x4_1 + 1)), (by rfl), H', ⟨by have := HK1.out; have := HK2.out; omega⟩, ⟨by (try simp only [hl3_1]); (try simp only [hl3_2]); exact HO_3.out⟩, ⟨HI0.out⟩, ⟨HK.out⟩, ⟨HB.out⟩⟩
   ·rw [if_neg c11] at H
    have c11b0 : decide (x4_1 < (s0_0.length : Int)) = false := decide_eq_false c11
    clear c11
    obtain ⟨y684, hy684⟩ : ∃ y_ : List Int, y_ = (([] : List Int)) := ⟨_, rfl⟩
    replace H : (q28.l3 k1 x3_1 y684 0) = some r := by (rw [hy684]; with_reducible exact H)
    have Ny684 := Am hy684
    clear hy684
    have H' := Am H
    clear H
    obtain ⟨ASz30_0, cSz30_0, ASz30_1, cSz30_1, HGz30, hgz30, HSz30_0, HSz30_1⟩ := HI0.out
    have hcz30_0 := cellS28_0 HGz30
    have hcz30_1 := cellS28_1 HGz30
    clear HGz30 hgz30
    go_wp2_with (((with_reducible refine gate_dst (N := 68) rfl ?_); (try (refine gate_guard (by rfl) ?_; dsimp only)); refine Kd.R_lit (Kd.int .i64) _ 2 ?hg (N := 68) ?hd (xs := ([] : List Int)) (inner := []) (ok := fun _ => True) (okp := fun _ => True) ?hr ?hp (fun _ hk => hk) trivial (Below.refl _ _) (Nat.le_refl _) (by simp) ?_; (case hd => rfl); (case hg => rfl); (case hr => (go_simp; done)); (case hp => exact (Reps.none _ _)); intro v685 w31 ho32 hb hg_ hnew_; clear hg_ hnew_; (rw [← Ny684.out] at ho32); replace HO_3 := Am (Kd.R_below HO_3.out hb); have HO686 := Am (Kd.R_lower ho32 (keep_size (w := w) (g := g) (row := none) HK.out)); replace HI0 := Am (IsS28.below HI0.out hb); replace HK := Am (KeepBut.trans HK.out (KeepBut.of_below hb g none) (.inl rfl)); replace HB := Am (below_step HB.out hb); clear hb ho32))
    go_loopg [7, 8] k1 (fun kq v7 v8 w' => ∃ (x7_2 : List Int) (x8_2 : Int), v8 = .int .i64 x8_2 ∧ Aside0 (q28.l3 kq x3_1 x7_2 x8_2 = some r) ∧ Aside0 (kq ≤ k1) ∧ Aside0 (Kd.R Kd.bool 4 w' w.heap.size (fun _ => True) (.slice (some ⟨go5, 0, none⟩) x3_1.length co5) x3_1) ∧ Aside0 (Kd.R (Kd.int .i64) 2 w' w.heap.size (fun _ => True) v7 x7_2) ∧ Aside0 (IsS28 w0 w' g s0_0 s0_1) ∧ Aside0 (KeepBut w w' g none) ∧ Aside0 (Below w0.heap.size w0 w'))
    case atStart => exact ⟨(y684), (0), (by rfl), H', ⟨Nat.le_refl _⟩, ⟨by exact HO_3.out⟩, ⟨by exact HO686.out⟩, ⟨HI0.out⟩, ⟨HK.out⟩, ⟨HB.out⟩⟩
    case round =>
     clear H'
     try clear c11b0
     try clear hcz30_0
     try clear hcz30_1
     obtain ⟨x7_2, x8_2, rfl, HA, HK2, HO_3, HO_7, HI0, HK, HB⟩ := hrel
     cases gk with
     | zero => exact absurd HA.out (by simp [q28.l3])
     | succ k2 =>
      have H := HA.out
      clear HA
      simp only [q28.l3] at H
      by_cases c33 : x8_2 < (x3_1.length : Int)
      ·rw [if_pos c33] at H
       have c33b0 : decide (x8_2 < (x3_1.length : Int)) = true := decide_eq_true c33
       clear c33
       replace H := ino H
       obtain ⟨c34, H⟩ := H
       have c34b0 : decide (0 ≤ x8_2) = true := decide_eq_true c34
       clear c34
       obtain ⟨bq35, hbq35⟩ : ∃ b_ : Bool, b_ = (rdOf false x3_1 x8_2) := ⟨_, rfl⟩
       replace H : (if bq35 = true then (if x7_2.length < 17592186044416 then (q28.l3 k2 x3_1 (x7_2 ++ [x8_2]) (wrap64 (x8_2 + 1))) else (none)) else (q28.l3 k2 x3_1 x7_2 (wrap64 (x8_2 + 1)))) = some r := by rw [← hbq35] at H; exact H
       have Nbq35 := Am hbq35
       clear hbq35
       by_cases c36 : bq35 = true
       ·subst c36
        have H1 : (if x7_2.length < 17592186044416 then (q28.l3 k2 x3_1 (x7_2 ++ [x8_2]) (wrap64 (x8_2 + 1))) else (none)) = some r := by rw [if_pos rfl] at H; exact H
        clear H
        have H := H1
        clear H1
        replace H := ino H
        obtain ⟨c37, H⟩ := H
        have LMc37 := Am c37
        clear c37
        obtain ⟨y688, hy688⟩ : ∃ y_ : List Int, y_ = (x7_2 ++ [x8_2]) := ⟨_, rfl⟩
        replace H : (q28.l3 k2 x3_1 y688 (wrap64 (x8_2 + 1))) = some r := by (rw [hy688]; with_reducible exact H)
        have Ny688 := Am hy688
        clear hy688
        have H' := Am H
        clear H
        have p687 : 0 ≤ (x8_2 : Int) := od (by assumption)
        have q687 : x8_2 < (x3_1.length : Int) := od (by assumption)
        obtain ⟨ad687, e687, hx687_0⟩ := Kd.at_bool (Kd.R_reads' HO_3.out).2.2 x8_2 p687 q687
        (try rw [← Nbq35.out] at hx687_0)
        obtain rfl : (⟨go5, 0, none⟩ : Addr) = ad687 := (by injection e687)
        (simp only [add_plain] at hx687_0)
        replace p687 := eq_true p687
        replace q687 := eq_true q687
        go_wp2_with (((with_reducible refine gate_builtin (b := .append) (xs := #[.tmp 79, .tmp 81]) rfl ?_); (try (refine gate_guard (by rfl) ?_; dsimp only)); at_builtin; refine Kd.R_append (Kd.int .i64) w.heap.size rfl (.tmp 79) (.tmp 81) 38 2 (.int .i64 0) 8 rfl Tryz.underlying38 info2 rfl (by decide) (by omega) u7 x7_2 x8_2 [.int .i64 x8_2] (fun _ => True) (fun _ => False) rfl rfl ?aP (fun _ hk => hk.elim) ?aF ?aO (Below.refl _ _) ?aS ?aL ?_; (case aP => exact rfl); (case aF => exact (fun _ _ => trivial)); (case aO => exact HO_7.out); (case aS => exact (keep_size (w := w) (g := g) (row := none) HK.out)); (case aL => have := LMc37.out; omega); intro v689 w38 ho hb hg hat; rw [← Ny688.out] at ho; replace HO_3 := Am (Kd.R_over' HO_3.out (Kd.R_typed HO_7.out) (by decide) hg); replace HI0 := Am (IsS28.grown (show IsS28 w0 _ g s0_0 s0_1 from HI0.out) hg (IsS28.own_ne HI0.out HO_7.out (by decide))); replace HB := Am (below_weaken HB.out HL.out hb); replace HK := Am (KeepBut.trans HK.out (KeepBut.of_grown hg g) (Kd.R_base2 HO_7.out)); have HO690 := Am ho; clear HO_7; clear ho hb hg hat))
        go_roundg k2
        case measure => have := HK1.out; have := HK2.out; omega
        case rel => exact ⟨(y688), (wrap64 (x8_2 + 1)), (by rfl), H', ⟨by have := HK1.out; have := HK2.out; omega⟩, ⟨by exact HO_3.out⟩, ⟨by exact HO690.out⟩, ⟨HI0.out⟩, ⟨HK.out⟩, ⟨HB.out⟩⟩
       ·replace c36 := Bool.eq_false_iff.mpr c36
        subst c36
        have H1 : (q28.l3 k2 x3_1 x7_2 (wrap64 (x8_2 + 1))) = some r := by rw [if_neg (show ¬ (false = true) by decide)] at H; exact H
        clear H
        have H := H1
        clear H1
        have H' := Am H
        clear H
        have p687 : 0 ≤ (x8_2 : Int) := od (by assumption)
        have q687 : x8_2 < (x3_1.length : Int) := od (by assumption)
        obtain ⟨ad687, e687, hx687_0⟩ := Kd.at_bool (Kd.R_reads' HO_3.out).2.2 x8_2 p687 q687
        (try rw [← Nbq35.out] at hx687_0)
        obtain rfl : (⟨go5, 0, none⟩ : Addr) = ad687 := (by injection e687)
        (simp only [add_plain] at hx687_0)
        replace p687 := eq_true p687
        replace q687 := eq_true q687
        go_wp2
        go_roundg k2
        case measure => have := HK1.out; have := HK2.out; omega
        case rel => exact ⟨(x7_2), (wrap64 (x8_2 + 1)), (by rfl), H', ⟨by have := HK1.out; have := HK2.out; omega⟩, ⟨by exact HO_3.out⟩, ⟨by exact HO_7.out⟩, ⟨HI0.out⟩, ⟨HK.out⟩, ⟨HB.out⟩⟩
      ·rw [if_neg c33] at H
       have c33b0 : decide (x8_2 < (x3_1.length : Int)) = false := decide_eq_false c33
       clear c33
       obtain rfl := Option.some.inj H
       go_wp2
       go_ret
       exact ⟨_, by rfl, by exact HO_7.out, HI0.out, HB.out, HK.out⟩
end Go.Proofs.YtafhjhdohclchaaGreatDoor.G
namespace Go.Proofs.YtafhjhdohclchaaGreatDoor.G
open Go.RowKit Go.Proofs.YtafhjhdohclchaaGreatDoorW.PrintWords Go.Proofs.YtafhjhdohclchaaGreatDoorW.PrintLast Go.Proofs.YtafhjhdohclchaaGreatDoorW.PrintMore
attribute [local go_sem] min2_int min_two
attribute [local go_sem high] str_leq
attribute [local go_sem] binOp_string_geq
def q26.l0 : Nat → List Int → Int → List (S86) → List (List Int) → Option (Bool)
 | 0, _, _, _, _ => none
 | k + 1, x3, x4, x1000, x1001 => if x4 < (x1000.length : Int) then (if 0 ≤ x4 then ((q22.f k x1000 x4).bind fun t698 => (if ((rd_T86 x1000 x4).f0) = 0 then (q26.l0 k x3 (wrap64 (x4 + 1)) x1000 x1001) else (if ((rd_T86 x1000 x4).f0) = 1 then (if t698 = ((rd_T86 x1000 x4).f1) then ((q1z.f k x3 x4).bind fun t699 => (if t699 = true then (q26.l0 k x3 (wrap64 (x4 + 1)) x1000 x1001) else (some false))) else (some false)) else (if x4 = 0 then (if t698 = 0 then ((q1z.f k x3 x4).bind fun t700 => (if t700 = true then (q26.l0 k x3 (wrap64 (x4 + 1)) x1000 x1001) else (some false))) else (some false)) else (if t698 = 1 then ((q1z.f k x3 x4).bind fun t701 => (if t701 = true then (q26.l0 k x3 (wrap64 (x4 + 1)) x1000 x1001) else (some false))) else (some false)))))) else (none)) else (some true)
def q26.f (k : Nat) (s0_0 : List (S86)) (s0_1 : List (List Int)) : Option (Bool) := (q28.f k s0_0 s0_1).bind fun t694 => (q26.l0 k t694 0 s0_0 s0_1)
theorem q26.mono_l : ∀ k, (∀ y0 y1 y2 y3, LeO (q26.l0 k y0 y1 y2 y3) (q26.l0 (k + 1) y0 y1 y2 y3))
 | 0 => fun _ _ _ _ r h => by simp [q26.l0] at h
 | k + 1 => by
  have ih0 := q26.mono_l k
  ·intro y0 y1 y2 y3
   unfold q26.l0
   repeat' first | (with_reducible exact ih0 _ _ _ _) | (with_reducible exact q1z.mono _ _ _) | (with_reducible exact q22.mono _ _ _) | (with_reducible exact LeO.refl _) | (with_reducible refine LeO.ite ?_ ?_) | (with_reducible refine LeO.bind ?_ (fun _ => ?_))
theorem q26.mono : ∀ a0 a1 k, LeO (q26.f k a0 a1) (q26.f (k + 1) a0 a1) := by
 intro a0 a1 k
 have ih0 := q26.mono_l k
 unfold q26.f
 repeat' first | (with_reducible exact ih0 _ _ _ _) | (with_reducible exact q28.mono _ _ _) | (with_reducible refine LeO.bind ?_ (fun _ => ?_))
set_option maxHeartbeats 8000000 in
set_option maxRecDepth 100000 in
theorem q26.calls (k : Nat) (g : Nat) (s0_0 : List (S86)) (s0_1 : List (List Int)) (r : Bool) (w0 w : World) (hI : IsS28 w0 w g s0_0 s0_1) (hB : Below w0.heap.size w0 w) (h : q26.f k s0_0 s0_1 = some r) :
  Calls Tryz.prog 126 #[.pointer (some ⟨g, 0, none⟩)] w fun e w' => e = .returned (.bool r) ∧ IsS28 w0 w' g s0_0 s0_1 ∧ Below w0.heap.size w0 w' ∧ KeepBut w w' g none := by
 have HI0 := Am hI
 have HK := Am (KeepBut.refl w g none)
 have HL := Am hB.size
 clear hI
 have HW0 := Am hB.size
 have HB := Am hB
 clear hB
 have H : ((q28.f k s0_0 s0_1).bind fun t694 => (q26.l0 k t694 0 s0_0 s0_1)) = some r := h
 clear h
 replace H := zbs H
 obtain ⟨t694, A2, H⟩ := H
 have H' := Am H
 clear H
 go_enter Tryz.func126, Tryz.ntmps126
 go_wp2_with (((with_reducible refine gate_callee (f := 196) rfl ?_); refine goesL_ (some 9) rfl rfl Tryz.func196 (by kernel_rfl) rfl #[.pointer (some ⟨g, 0, none⟩)] rfl (by (try simp only [List.map_toArray, List.map_cons, List.map_nil]); rfl) ?_; (with_reducible refine (q28.calls k g s0_0 s0_1 t694 w0 _ ?side1 ?side2 A2.out).mono ?_); (case side1 => repeat ((with_reducible exact HI0.out))); (case side2 => repeat ((with_reducible exact HB.out))); rintro e w3 ⟨v695, rfl, ho0, hi, hb, hk⟩; refine ⟨_, rfl, ?_⟩; have HO696 := Am (Kd.R_lower ho0 (keep_size (w := w) (g := g) (row := none) HK.out)); replace HK := Am (KeepBut.trans HK.out hk (.inl rfl)); replace HB := Am hb; replace HI0 := Am hi; (try clear hb); (try clear hk); (try clear hi); (try clear ho0)))
 go_loopg [4] k (fun kq v4 w' => ∃ (x4_1 : Int), v4 = .int .i64 x4_1 ∧ Aside0 (q26.l0 kq t694 x4_1 s0_0 s0_1 = some r) ∧ Aside0 (kq ≤ k) ∧ Aside0 (Kd.R (Kd.int .i64) 2 w' w.heap.size (fun _ => True) v695 t694) ∧ Aside0 (IsS28 w0 w' g s0_0 s0_1) ∧ Aside0 (KeepBut w w' g none) ∧ Aside0 (Below w0.heap.size w0 w'))
 case atStart => exact ⟨(0), (by rfl), H', ⟨Nat.le_refl _⟩, ⟨by exact HO696.out⟩, ⟨HI0.out⟩, ⟨HK.out⟩, ⟨HB.out⟩⟩
 case round =>
  clear H'
  obtain ⟨x4_1, rfl, HA, HK1, HO_3, HI0, HK, HB⟩ := hrel
  cases gk with
  | zero => exact absurd HA.out (by simp [q26.l0])
  | succ k1 =>
   have H := HA.out
   clear HA
   simp only [q26.l0] at H
   by_cases c4 : x4_1 < (s0_0.length : Int)
   ·rw [if_pos c4] at H
    have c4b0 : decide (x4_1 < (s0_0.length : Int)) = true := decide_eq_true c4
    clear c4
    replace H := ino H
    obtain ⟨c5, H⟩ := H
    have c5b0 : decide (0 ≤ x4_1) = true := decide_eq_true c5
    clear c5
    replace H := zbs H
    obtain ⟨t698, A6, H⟩ := H
    by_cases c7 : ((rd_T86 s0_0 x4_1).f0) = 0
    ·rw [if_pos c7] at H
     have c7b0 : (((rd_T86 s0_0 x4_1).f0) == 0) = true := beq_iff_eq.mpr c7
     have c7b1 : (((rd_T86 s0_0 x4_1).f0) != 0) = false := bne_eq_false_iff_eq.mpr c7
     clear c7
     have H' := Am H
     clear H
     obtain ⟨ASz8_0, cSz8_0, ASz8_1, cSz8_1, HGz8, hgz8, HSz8_0, HSz8_1⟩ := HI0.out
     have hcz8_0 := cellS28_0 HGz8
     have hcz8_1 := cellS28_1 HGz8
     clear HGz8 hgz8
     have p697 : 0 ≤ (x4_1 : Int) := od (by assumption)
     have q697 : x4_1 < (s0_0.length : Int) := od (by assumption)
     obtain ⟨ad697, A697_3, c697_3, A697_4, c697_4, e697, hx697_0, hx697_1, hx697_2, hx697_3, hx697_4, hl697_3, hi697_3, hl697_4, hi697_4⟩ := at_T86 HSz8_0.1 x4_1 p697 q697
     cases e697
     replace hx697_0 := pcb HB.out hx697_0
     replace hx697_1 := pcb HB.out hx697_1
     replace hx697_2 := pcb HB.out hx697_2
     replace hx697_3 := pcb HB.out hx697_3
     replace hx697_4 := pcb HB.out hx697_4
     have HR697_3 := Am hi697_3
     have HC697_3 := Am hl697_3
     clear hi697_3 hl697_3
     have HR697_4 := Am hi697_4
     have HC697_4 := Am hl697_4
     clear hi697_4 hl697_4
     replace p697 := eq_true p697
     replace q697 := eq_true q697
     go_wp2_with (((with_reducible refine gate_callee (f := 197) rfl ?_); refine goesL_ (some 30) rfl rfl Tryz.func197 (by kernel_rfl) rfl #[.slice (some ad697) s0_0.length cSz8_0, .int .i64 x4_1] rfl (by (try simp only [List.map_toArray, List.map_cons, List.map_nil]); rfl) ?_; (with_reducible refine (q22.calls k1 _ _ s0_0 x4_1 t698 _ ?side1 ?side2 A6.out).mono ?_); (case side1 => exact Kd.C_below HSz8_0.1 HB.out); (case side2 => exact HSz8_0.2); rintro e w' ⟨rfl, ⟨nd, rfl⟩⟩; refine ⟨_, rfl, ?_⟩))
     go_roundg k1
     case measure => have := HK1.out; omega
     case rel => exact ⟨(wrap64 (x4_1 + 1)), (by rfl), H', ⟨by have := HK1.out; omega⟩, ⟨by (with_reducible repeat (apply Kd.R_drewN)); exact HO_3.out⟩, ⟨by repeat ((with_reducible first | exact HI0.out | apply IsS28.drewN))⟩, ⟨by repeat ((with_reducible first | exact HK.out | apply keep_drewN))⟩, ⟨by repeat ((with_reducible first | exact HB.out | apply pw_below_drewN))⟩⟩
    ·rw [if_neg c7] at H
     have c7b0 : (((rd_T86 s0_0 x4_1).f0) == 0) = false := beq_eq_false_iff_ne.mpr c7
     have c7b1 : (((rd_T86 s0_0 x4_1).f0) != 0) = true := bne_iff_ne.mpr c7
     by_cases c9 : ((rd_T86 s0_0 x4_1).f0) = 1
     ·rw [if_pos c9] at H
      have c9b0 : (((rd_T86 s0_0 x4_1).f0) == 1) = true := beq_iff_eq.mpr c9
      have c9b1 : (((rd_T86 s0_0 x4_1).f0) != 1) = false := bne_eq_false_iff_eq.mpr c9
      clear c9
      by_cases c10 : t698 = ((rd_T86 s0_0 x4_1).f1)
      ·rw [if_pos c10] at H
       have c10b0 : (t698 == ((rd_T86 s0_0 x4_1).f1)) = true := beq_iff_eq.mpr c10
       have c10b1 : (t698 != ((rd_T86 s0_0 x4_1).f1)) = false := bne_eq_false_iff_eq.mpr c10
       clear c10
       replace H := zbs H
       obtain ⟨t699, A11, H⟩ := H
       by_cases c12 : t699 = true
       ·subst c12
        have H1 : (q26.l0 k1 t694 (wrap64 (x4_1 + 1)) s0_0 s0_1) = some r := by rw [if_pos rfl] at H; exact H
        clear H
        have H := H1
        clear H1
        have H' := Am H
        clear H
        obtain ⟨ASz13_0, cSz13_0, ASz13_1, cSz13_1, HGz13, hgz13, HSz13_0, HSz13_1⟩ := HI0.out
        have hcz13_0 := cellS28_0 HGz13
        have hcz13_1 := cellS28_1 HGz13
        clear HGz13 hgz13
        have p697 : 0 ≤ (x4_1 : Int) := od (by assumption)
        have q697 : x4_1 < (s0_0.length : Int) := od (by assumption)
        obtain ⟨ad697, A697_3, c697_3, A697_4, c697_4, e697, hx697_0, hx697_1, hx697_2, hx697_3, hx697_4, hl697_3, hi697_3, hl697_4, hi697_4⟩ := at_T86 HSz13_0.1 x4_1 p697 q697
        cases e697
        replace hx697_0 := pcb HB.out hx697_0
        replace hx697_1 := pcb HB.out hx697_1
        replace hx697_2 := pcb HB.out hx697_2
        replace hx697_3 := pcb HB.out hx697_3
        replace hx697_4 := pcb HB.out hx697_4
        have HR697_3 := Am hi697_3
        have HC697_3 := Am hl697_3
        clear hi697_3 hl697_3
        have HR697_4 := Am hi697_4
        have HC697_4 := Am hl697_4
        clear hi697_4 hl697_4
        replace p697 := eq_true p697
        replace q697 := eq_true q697
        go_wp2_with (first | ((with_reducible refine gate_callee (f := 197) rfl ?_); refine goesL_ (some 30) rfl rfl Tryz.func197 (by kernel_rfl) rfl #[.slice (some ad697) s0_0.length cSz13_0, .int .i64 x4_1] rfl (by (try simp only [List.map_toArray, List.map_cons, List.map_nil]); rfl) ?_; (with_reducible refine (q22.calls k1 _ _ s0_0 x4_1 t698 _ ?side1 ?side2 A6.out).mono ?_); (case side1 => exact Kd.C_below HSz13_0.1 HB.out); (case side2 => exact HSz13_0.2); rintro e w' ⟨rfl, ⟨nd, rfl⟩⟩; refine ⟨_, rfl, ?_⟩; obtain ⟨Ao14, co14, eo14⟩ := Kd.R_slice HO_3.out; subst eo14) | (go_at_call 68; (with_reducible refine (q1z.calls k1 _ _ t694 x4_1 true _ ?side1 ?side2 A11.out).mono ?_); (case side1 => repeat (exact (Kd.R_reads' HO_3.out).2.2)); (case side2 => exact (Kd.R_reads' HO_3.out).2.1); rintro e w' ⟨rfl, ⟨nd, rfl⟩⟩))
        go_roundg k1
        case measure => have := HK1.out; omega
        case rel => exact ⟨(wrap64 (x4_1 + 1)), (by rfl), H', ⟨by have := HK1.out; omega⟩, ⟨by (with_reducible repeat (apply Kd.R_drewN)); exact HO_3.out⟩, ⟨by repeat ((with_reducible first | exact HI0.out | apply IsS28.drewN))⟩, ⟨by repeat ((with_reducible first | exact HK.out | apply keep_drewN))⟩, ⟨by repeat ((with_reducible first | exact HB.out | apply pw_below_drewN))⟩⟩
       ·replace c12 := Bool.eq_false_iff.mpr c12
        subst c12
        have H1 : (some false) = some r := by rw [if_neg (show ¬ (false = true) by decide)] at H; exact H
        clear H
        have H := H1
        clear H1
        obtain rfl := Option.some.inj H
        obtain ⟨ASz15_0, cSz15_0, ASz15_1, cSz15_1, HGz15, hgz15, HSz15_0, HSz15_1⟩ := HI0.out
        have hcz15_0 := cellS28_0 HGz15
        have hcz15_1 := cellS28_1 HGz15
        clear HGz15 hgz15
        have p697 : 0 ≤ (x4_1 : Int) := od (by assumption)
        have q697 : x4_1 < (s0_0.length : Int) := od (by assumption)
        obtain ⟨ad697, A697_3, c697_3, A697_4, c697_4, e697, hx697_0, hx697_1, hx697_2, hx697_3, hx697_4, hl697_3, hi697_3, hl697_4, hi697_4⟩ := at_T86 HSz15_0.1 x4_1 p697 q697
        cases e697
        replace hx697_0 := pcb HB.out hx697_0
        replace hx697_1 := pcb HB.out hx697_1
        replace hx697_2 := pcb HB.out hx697_2
        replace hx697_3 := pcb HB.out hx697_3
        replace hx697_4 := pcb HB.out hx697_4
        have HR697_3 := Am hi697_3
        have HC697_3 := Am hl697_3
        clear hi697_3 hl697_3
        have HR697_4 := Am hi697_4
        have HC697_4 := Am hl697_4
        clear hi697_4 hl697_4
        replace p697 := eq_true p697
        replace q697 := eq_true q697
        go_wp2_with (first | ((with_reducible refine gate_callee (f := 197) rfl ?_); refine goesL_ (some 30) rfl rfl Tryz.func197 (by kernel_rfl) rfl #[.slice (some ad697) s0_0.length cSz15_0, .int .i64 x4_1] rfl (by (try simp only [List.map_toArray, List.map_cons, List.map_nil]); rfl) ?_; (with_reducible refine (q22.calls k1 _ _ s0_0 x4_1 t698 _ ?side1 ?side2 A6.out).mono ?_); (case side1 => exact Kd.C_below HSz15_0.1 HB.out); (case side2 => exact HSz15_0.2); rintro e w' ⟨rfl, ⟨nd, rfl⟩⟩; refine ⟨_, rfl, ?_⟩; obtain ⟨Ao16, co16, eo16⟩ := Kd.R_slice HO_3.out; subst eo16) | (go_at_call 68; (with_reducible refine (q1z.calls k1 _ _ t694 x4_1 false _ ?side1 ?side2 A11.out).mono ?_); (case side1 => repeat (exact (Kd.R_reads' HO_3.out).2.2)); (case side2 => exact (Kd.R_reads' HO_3.out).2.1); rintro e w' ⟨rfl, ⟨nd, rfl⟩⟩))
        go_ret
        exact ⟨by rfl, by repeat ((with_reducible first | exact HI0.out | apply IsS28.drewN)), by repeat ((with_reducible first | exact HB.out | apply pw_below_drewN)), by repeat ((with_reducible first | exact HK.out | apply keep_drewN))⟩
      ·rw [if_neg c10] at H
       have c10b0 : (t698 == ((rd_T86 s0_0 x4_1).f1)) = false := beq_eq_false_iff_ne.mpr c10
       have c10b1 : (t698 != ((rd_T86 s0_0 x4_1).f1)) = true := bne_iff_ne.mpr c10
       obtain rfl := Option.some.inj H
       obtain ⟨ASz17_0, cSz17_0, ASz17_1, cSz17_1, HGz17, hgz17, HSz17_0, HSz17_1⟩ := HI0.out
       have hcz17_0 := cellS28_0 HGz17
       have hcz17_1 := cellS28_1 HGz17
       clear HGz17 hgz17
       have p697 : 0 ≤ (x4_1 : Int) := od (by assumption)
       have q697 : x4_1 < (s0_0.length : Int) := od (by assumption)
       obtain ⟨ad697, A697_3, c697_3, A697_4, c697_4, e697, hx697_0, hx697_1, hx697_2, hx697_3, hx697_4, hl697_3, hi697_3, hl697_4, hi697_4⟩ := at_T86 HSz17_0.1 x4_1 p697 q697
       cases e697
       replace hx697_0 := pcb HB.out hx697_0
       replace hx697_1 := pcb HB.out hx697_1
       replace hx697_2 := pcb HB.out hx697_2
       replace hx697_3 := pcb HB.out hx697_3
       replace hx697_4 := pcb HB.out hx697_4
       have HR697_3 := Am hi697_3
       have HC697_3 := Am hl697_3
       clear hi697_3 hl697_3
       have HR697_4 := Am hi697_4
       have HC697_4 := Am hl697_4
       clear hi697_4 hl697_4
       replace p697 := eq_true p697
       replace q697 := eq_true q697
       go_wp2_with (((with_reducible refine gate_callee (f := 197) rfl ?_); refine goesL_ (some 30) rfl rfl Tryz.func197 (by kernel_rfl) rfl #[.slice (some ad697) s0_0.length cSz17_0, .int .i64 x4_1] rfl (by (try simp only [List.map_toArray, List.map_cons, List.map_nil]); rfl) ?_; (with_reducible refine (q22.calls k1 _ _ s0_0 x4_1 t698 _ ?side1 ?side2 A6.out).mono ?_); (case side1 => exact Kd.C_below HSz17_0.1 HB.out); (case side2 => exact HSz17_0.2); rintro e w' ⟨rfl, ⟨nd, rfl⟩⟩; refine ⟨_, rfl, ?_⟩))
       go_ret
       exact ⟨by rfl, by repeat ((with_reducible first | exact HI0.out | apply IsS28.drewN)), by repeat ((with_reducible first | exact HB.out | apply pw_below_drewN)), by repeat ((with_reducible first | exact HK.out | apply keep_drewN))⟩
     ·rw [if_neg c9] at H
      have c9b0 : (((rd_T86 s0_0 x4_1).f0) == 1) = false := beq_eq_false_iff_ne.mpr c9
      have c9b1 : (((rd_T86 s0_0 x4_1).f0) != 1) = true := bne_iff_ne.mpr c9
      by_cases c18 : x4_1 = 0
      ·rw [if_pos c18] at H
       have c18b0 : (x4_1 == 0) = true := beq_iff_eq.mpr c18
       have c18b1 : (x4_1 != 0) = false := bne_eq_false_iff_eq.mpr c18
       clear c18
       by_cases c19 : t698 = 0
       ·rw [if_pos c19] at H
        have c19b0 : (t698 == 0) = true := beq_iff_eq.mpr c19
        have c19b1 : (t698 != 0) = false := bne_eq_false_iff_eq.mpr c19
        clear c19
        replace H := zbs H
        obtain ⟨t700, A20, H⟩ := H
        by_cases c21 : t700 = true
        ·subst c21
         have H1 : (q26.l0 k1 t694 (wrap64 (x4_1 + 1)) s0_0 s0_1) = some r := by rw [if_pos rfl] at H; exact H
         clear H
         have H := H1
         clear H1
         have H' := Am H
         clear H
         obtain ⟨ASz22_0, cSz22_0, ASz22_1, cSz22_1, HGz22, hgz22, HSz22_0, HSz22_1⟩ := HI0.out
         have hcz22_0 := cellS28_0 HGz22
         have hcz22_1 := cellS28_1 HGz22
         clear HGz22 hgz22
         have p697 : 0 ≤ (x4_1 : Int) := od (by assumption)
         have q697 : x4_1 < (s0_0.length : Int) := od (by assumption)
         obtain ⟨ad697, A697_3, c697_3, A697_4, c697_4, e697, hx697_0, hx697_1, hx697_2, hx697_3, hx697_4, hl697_3, hi697_3, hl697_4, hi697_4⟩ := at_T86 HSz22_0.1 x4_1 p697 q697
         cases e697
         replace hx697_0 := pcb HB.out hx697_0
         replace hx697_1 := pcb HB.out hx697_1
         replace hx697_2 := pcb HB.out hx697_2
         replace hx697_3 := pcb HB.out hx697_3
         replace hx697_4 := pcb HB.out hx697_4
         have HR697_3 := Am hi697_3
         have HC697_3 := Am hl697_3
         clear hi697_3 hl697_3
         have HR697_4 := Am hi697_4
         have HC697_4 := Am hl697_4
         clear hi697_4 hl697_4
         replace p697 := eq_true p697
         replace q697 := eq_true q697
         go_wp2_with (first | ((with_reducible refine gate_callee (f := 197) rfl ?_); refine goesL_ (some 30) rfl rfl Tryz.func197 (by kernel_rfl) rfl #[.slice (some ad697) s0_0.length cSz22_0, .int .i64 x4_1] rfl (by (try simp only [List.map_toArray, List.map_cons, List.map_nil]); rfl) ?_; (with_reducible refine (q22.calls k1 _ _ s0_0 x4_1 t698 _ ?side1 ?side2 A6.out).mono ?_); (case side1 => exact Kd.C_below HSz22_0.1 HB.out); (case side2 => exact HSz22_0.2); rintro e w' ⟨rfl, ⟨nd, rfl⟩⟩; refine ⟨_, rfl, ?_⟩; obtain ⟨Ao23, co23, eo23⟩ := Kd.R_slice HO_3.out; subst eo23) | (go_at_call 68; (with_reducible refine (q1z.calls k1 _ _ t694 x4_1 true _ ?side1 ?side2 A20.out).mono ?_); (case side1 => repeat (exact (Kd.R_reads' HO_3.out).2.2)); (case side2 => exact (Kd.R_reads' HO_3.out).2.1); rintro e w' ⟨rfl, ⟨nd, rfl⟩⟩))
         go_roundg k1
         case measure => have := HK1.out; omega
         case rel => exact ⟨(wrap64 (x4_1 + 1)), (by rfl), H', ⟨by have := HK1.out; omega⟩, ⟨by (with_reducible repeat (apply Kd.R_drewN)); exact HO_3.out⟩, ⟨by repeat ((with_reducible first | exact HI0.out | apply IsS28.drewN))⟩, ⟨by repeat ((with_reducible first | exact HK.out | apply keep_drewN))⟩, ⟨by repeat ((with_reducible first | exact HB.out | apply pw_below_drewN))⟩⟩
        ·replace c21 := Bool.eq_false_iff.mpr c21
         subst c21
         have H1 : (some false) = some r := by rw [if_neg (show ¬ (false = true) by decide)] at H; exact H
         clear H
         have H := H1
         clear H1
         obtain rfl := Option.some.inj H
         obtain ⟨ASz24_0, cSz24_0, ASz24_1, cSz24_1, HGz24, hgz24, HSz24_0, HSz24_1⟩ := HI0.out
         have hcz24_0 := cellS28_0 HGz24
         have hcz24_1 := cellS28_1 HGz24
         clear HGz24 hgz24
         have p697 : 0 ≤ (x4_1 : Int) := od (by assumption)
         have q697 : x4_1 < (s0_0.length : Int) := od (by assumption)
         obtain ⟨ad697, A697_3, c697_3, A697_4, c697_4, e697, hx697_0, hx697_1, hx697_2, hx697_3, hx697_4, hl697_3, hi697_3, hl697_4, hi697_4⟩ := at_T86 HSz24_0.1 x4_1 p697 q697
         cases e697
         replace hx697_0 := pcb HB.out hx697_0
         replace hx697_1 := pcb HB.out hx697_1
         replace hx697_2 := pcb HB.out hx697_2
         replace hx697_3 := pcb HB.out hx697_3
         replace hx697_4 := pcb HB.out hx697_4
         have HR697_3 := Am hi697_3
         have HC697_3 := Am hl697_3
         clear hi697_3 hl697_3
         have HR697_4 := Am hi697_4
         have HC697_4 := Am hl697_4
         clear hi697_4 hl697_4
         replace p697 := eq_true p697
         replace q697 := eq_true q697
         go_wp2_with (first | ((with_reducible refine gate_callee (f := 197) rfl ?_); refine goesL_ (some 30) rfl rfl Tryz.func197 (by kernel_rfl) rfl #[.slice (some ad697) s0_0.length cSz24_0, .int .i64 x4_1] rfl (by (try simp only [List.map_toArray, List.map_cons, List.map_nil]); rfl) ?_; (with_reducible refine (q22.calls k1 _ _ s0_0 x4_1 t698 _ ?side1 ?side2 A6.out).mono ?_); (case side1 => exact Kd.C_below HSz24_0.1 HB.out); (case side2 => exact HSz24_0.2); rintro e w' ⟨rfl, ⟨nd, rfl⟩⟩; refine ⟨_, rfl, ?_⟩; obtain ⟨Ao25, co25, eo25⟩ := Kd.R_slice HO_3.out; subst eo25) | (go_at_call 68; (with_reducible refine (q1z.calls k1 _ _ t694 x4_1 false _ ?side1 ?side2 A20.out).mono ?_); (case side1 => repeat (exact (Kd.R_reads' HO_3.out).2.2)); (case side2 => exact (Kd.R_reads' HO_3.out).2.1); rintro e w' ⟨rfl, ⟨nd, rfl⟩⟩))
         go_ret
         exact ⟨by rfl, by repeat ((with_reducible first | exact HI0.out | apply IsS28.drewN)), by repeat ((with_reducible first | exact HB.out | apply pw_below_drewN)), by repeat ((with_reducible first | exact HK.out | apply keep_drewN))⟩
       ·rw [if_neg c19] at H
        have c19b0 : (t698 == 0) = false := beq_eq_false_iff_ne.mpr c19
        have c19b1 : (t698 != 0) = true := bne_iff_ne.mpr c19
        obtain rfl := Option.some.inj H
        obtain ⟨ASz26_0, cSz26_0, ASz26_1, cSz26_1, HGz26, hgz26, HSz26_0, HSz26_1⟩ := HI0.out
        have hcz26_0 := cellS28_0 HGz26
        have hcz26_1 := cellS28_1 HGz26
        clear HGz26 hgz26
        have p697 : 0 ≤ (x4_1 : Int) := od (by assumption)
        have q697 : x4_1 < (s0_0.length : Int) := od (by assumption)
        obtain ⟨ad697, A697_3, c697_3, A697_4, c697_4, e697, hx697_0, hx697_1, hx697_2, hx697_3, hx697_4, hl697_3, hi697_3, hl697_4, hi697_4⟩ := at_T86 HSz26_0.1 x4_1 p697 q697
        cases e697
        replace hx697_0 := pcb HB.out hx697_0
        replace hx697_1 := pcb HB.out hx697_1
        replace hx697_2 := pcb HB.out hx697_2
        replace hx697_3 := pcb HB.out hx697_3
        replace hx697_4 := pcb HB.out hx697_4
        have HR697_3 := Am hi697_3
        have HC697_3 := Am hl697_3
        clear hi697_3 hl697_3
        have HR697_4 := Am hi697_4
        have HC697_4 := Am hl697_4
        clear hi697_4 hl697_4
        replace p697 := eq_true p697
        replace q697 := eq_true q697
        go_wp2_with (((with_reducible refine gate_callee (f := 197) rfl ?_); refine goesL_ (some 30) rfl rfl Tryz.func197 (by kernel_rfl) rfl #[.slice (some ad697) s0_0.length cSz26_0, .int .i64 x4_1] rfl (by (try simp only [List.map_toArray, List.map_cons, List.map_nil]); rfl) ?_; (with_reducible refine (q22.calls k1 _ _ s0_0 x4_1 t698 _ ?side1 ?side2 A6.out).mono ?_); (case side1 => exact Kd.C_below HSz26_0.1 HB.out); (case side2 => exact HSz26_0.2); rintro e w' ⟨rfl, ⟨nd, rfl⟩⟩; refine ⟨_, rfl, ?_⟩))
        go_ret
        exact ⟨by rfl, by repeat ((with_reducible first | exact HI0.out | apply IsS28.drewN)), by repeat ((with_reducible first | exact HB.out | apply pw_below_drewN)), by repeat ((with_reducible first | exact HK.out | apply keep_drewN))⟩
      ·rw [if_neg c18] at H
       have c18b0 : (x4_1 == 0) = false := beq_eq_false_iff_ne.mpr c18
       have c18b1 : (x4_1 != 0) = true := bne_iff_ne.mpr c18
       by_cases c27 : t698 = 1
       ·rw [if_pos c27] at H
        have c27b0 : (t698 == 1) = true := beq_iff_eq.mpr c27
        have c27b1 : (t698 != 1) = false := bne_eq_false_iff_eq.mpr c27
        clear c27
        replace H := zbs H
        obtain ⟨t701, A28, H⟩ := H
        by_cases c29 : t701 = true
        ·subst c29
         have H1 : (q26.l0 k1 t694 (wrap64 (x4_1 + 1)) s0_0 s0_1) = some r := by rw [if_pos rfl] at H; exact H
         clear H
         have H := H1
         clear H1
         have H' := Am H
         clear H
         obtain ⟨ASz30_0, cSz30_0, ASz30_1, cSz30_1, HGz30, hgz30, HSz30_0, HSz30_1⟩ := HI0.out
         have hcz30_0 := cellS28_0 HGz30
         have hcz30_1 := cellS28_1 HGz30
         clear HGz30 hgz30
         have p697 : 0 ≤ (x4_1 : Int) := od (by assumption)
         have q697 : x4_1 < (s0_0.length : Int) := od (by assumption)
         obtain ⟨ad697, A697_3, c697_3, A697_4, c697_4, e697, hx697_0, hx697_1, hx697_2, hx697_3, hx697_4, hl697_3, hi697_3, hl697_4, hi697_4⟩ := at_T86 HSz30_0.1 x4_1 p697 q697
         cases e697
         replace hx697_0 := pcb HB.out hx697_0
         replace hx697_1 := pcb HB.out hx697_1
         replace hx697_2 := pcb HB.out hx697_2
         replace hx697_3 := pcb HB.out hx697_3
         replace hx697_4 := pcb HB.out hx697_4
         have HR697_3 := Am hi697_3
         have HC697_3 := Am hl697_3
         clear hi697_3 hl697_3
         have HR697_4 := Am hi697_4
         have HC697_4 := Am hl697_4
         clear hi697_4 hl697_4
         replace p697 := eq_true p697
         replace q697 := eq_true q697
         go_wp2_with (first | ((with_reducible refine gate_callee (f := 197) rfl ?_); refine goesL_ (some 30) rfl rfl Tryz.func197 (by kernel_rfl) rfl #[.slice (some ad697) s0_0.length cSz30_0, .int .i64 x4_1] rfl (by (try simp only [List.map_toArray, List.map_cons, List.map_nil]); rfl) ?_; (with_reducible refine (q22.calls k1 _ _ s0_0 x4_1 t698 _ ?side1 ?side2 A6.out).mono ?_); (case side1 => exact Kd.C_below HSz30_0.1 HB.out); (case side2 => exact HSz30_0.2); rintro e w' ⟨rfl, ⟨nd, rfl⟩⟩; refine ⟨_, rfl, ?_⟩; obtain ⟨Ao31, co31, eo31⟩ := Kd.R_slice HO_3.out; subst eo31) | (go_at_call 68; (with_reducible refine (q1z.calls k1 _ _ t694 x4_1 true _ ?side1 ?side2 A28.out).mono ?_); (case side1 => repeat (exact (Kd.R_reads' HO_3.out).2.2)); (case side2 => exact (Kd.R_reads' HO_3.out).2.1); rintro e w' ⟨rfl, ⟨nd, rfl⟩⟩))
         go_roundg k1
         case measure => have := HK1.out; omega
         case rel => exact ⟨(wrap64 (x4_1 + 1)), (by rfl), H', ⟨by have := HK1.out; omega⟩, ⟨by (with_reducible repeat (apply Kd.R_drewN)); exact HO_3.out⟩, ⟨by repeat ((with_reducible first | exact HI0.out | apply IsS28.drewN))⟩, ⟨by repeat ((with_reducible first | exact HK.out | apply keep_drewN))⟩, ⟨by repeat ((with_reducible first | exact HB.out | apply pw_below_drewN))⟩⟩
        ·replace c29 := Bool.eq_false_iff.mpr c29
         subst c29
         have H1 : (some false) = some r := by rw [if_neg (show ¬ (false = true) by decide)] at H; exact H
         clear H
         have H := H1
         clear H1
         obtain rfl := Option.some.inj H
         obtain ⟨ASz32_0, cSz32_0, ASz32_1, cSz32_1, HGz32, hgz32, HSz32_0, HSz32_1⟩ := HI0.out
         have hcz32_0 := cellS28_0 HGz32
         have hcz32_1 := cellS28_1 HGz32
         clear HGz32 hgz32
         have p697 : 0 ≤ (x4_1 : Int) := od (by assumption)
         have q697 : x4_1 < (s0_0.length : Int) := od (by assumption)
         obtain ⟨ad697, A697_3, c697_3, A697_4, c697_4, e697, hx697_0, hx697_1, hx697_2, hx697_3, hx697_4, hl697_3, hi697_3, hl697_4, hi697_4⟩ := at_T86 HSz32_0.1 x4_1 p697 q697
         cases e697
         replace hx697_0 := pcb HB.out hx697_0
         replace hx697_1 := pcb HB.out hx697_1
         replace hx697_2 := pcb HB.out hx697_2
         replace hx697_3 := pcb HB.out hx697_3
         replace hx697_4 := pcb HB.out hx697_4
         have HR697_3 := Am hi697_3
         have HC697_3 := Am hl697_3
         clear hi697_3 hl697_3
         have HR697_4 := Am hi697_4
         have HC697_4 := Am hl697_4
         clear hi697_4 hl697_4
         replace p697 := eq_true p697
         replace q697 := eq_true q697
         go_wp2_with (first | ((with_reducible refine gate_callee (f := 197) rfl ?_); refine goesL_ (some 30) rfl rfl Tryz.func197 (by kernel_rfl) rfl #[.slice (some ad697) s0_0.length cSz32_0, .int .i64 x4_1] rfl (by (try simp only [List.map_toArray, List.map_cons, List.map_nil]); rfl) ?_; (with_reducible refine (q22.calls k1 _ _ s0_0 x4_1 t698 _ ?side1 ?side2 A6.out).mono ?_); (case side1 => exact Kd.C_below HSz32_0.1 HB.out); (case side2 => exact HSz32_0.2); rintro e w' ⟨rfl, ⟨nd, rfl⟩⟩; refine ⟨_, rfl, ?_⟩; obtain ⟨Ao33, co33, eo33⟩ := Kd.R_slice HO_3.out; subst eo33) | (go_at_call 68; (with_reducible refine (q1z.calls k1 _ _ t694 x4_1 false _ ?side1 ?side2 A28.out).mono ?_); (case side1 => repeat (exact (Kd.R_reads' HO_3.out).2.2)); (case side2 => exact (Kd.R_reads' HO_3.out).2.1); rintro e w' ⟨rfl, ⟨nd, rfl⟩⟩))
         go_ret
         exact ⟨by rfl, by repeat ((with_reducible first | exact HI0.out | apply IsS28.drewN)), by repeat ((with_reducible first | exact HB.out | apply pw_below_drewN)), by repeat ((with_reducible first | exact HK.out | apply keep_drewN))⟩
       ·rw [if_neg c27] at H
        have c27b0 : (t698 == 1) = false := beq_eq_false_iff_ne.mpr c27
        have c27b1 : (t698 != 1) = true := bne_iff_ne.mpr c27
        obtain rfl := Option.some.inj H
        obtain ⟨ASz34_0, cSz34_0, ASz34_1, cSz34_1, HGz34, hgz34, HSz34_0, HSz34_1⟩ := HI0.out
        have hcz34_0 := cellS28_0 HGz34
        have hcz34_1 := cellS28_1 HGz34
        clear HGz34 hgz34
        have p697 : 0 ≤ (x4_1 : Int) := od (by assumption)
        have q697 : x4_1 < (s0_0.length : Int) := od (by assumption)
        obtain ⟨ad697, A697_3, c697_3, A697_4, c697_4, e697, hx697_0, hx697_1, hx697_2, hx697_3, hx697_4, hl697_3, hi697_3, hl697_4, hi697_4⟩ := at_T86 HSz34_0.1 x4_1 p697 q697
        cases e697
        replace hx697_0 := pcb HB.out hx697_0
        replace hx697_1 := pcb HB.out hx697_1
        replace hx697_2 := pcb HB.out hx697_2
        replace hx697_3 := pcb HB.out hx697_3
        replace hx697_4 := pcb HB.out hx697_4
        have HR697_3 := Am hi697_3
        have HC697_3 := Am hl697_3
        clear hi697_3 hl697_3
        have HR697_4 := Am hi697_4
        have HC697_4 := Am hl697_4
        clear hi697_4 hl697_4
        replace p697 := eq_true p697
        replace q697 := eq_true q697
        go_wp2_with (((with_reducible refine gate_callee (f := 197) rfl ?_); refine goesL_ (some 30) rfl rfl Tryz.func197 (by kernel_rfl) rfl #[.slice (some ad697) s0_0.length cSz34_0, .int .i64 x4_1] rfl (by (try simp only [List.map_toArray, List.map_cons, List.map_nil]); rfl) ?_; (with_reducible refine (q22.calls k1 _ _ s0_0 x4_1 t698 _ ?side1 ?side2 A6.out).mono ?_); (case side1 => exact Kd.C_below HSz34_0.1 HB.out); (case side2 => exact HSz34_0.2); rintro e w' ⟨rfl, ⟨nd, rfl⟩⟩; refine ⟨_, rfl, ?_⟩))
        go_ret
        exact ⟨by rfl, by repeat ((with_reducible first | exact HI0.out | apply IsS28.drewN)), by repeat ((with_reducible first | exact HB.out | apply pw_below_drewN)), by repeat ((with_reducible first | exact HK.out | apply keep_drewN))⟩
   ·rw [if_neg c4] at H
    have c4b0 : decide (x4_1 < (s0_0.length : Int)) = false := decide_eq_false c4
    clear c4
    obtain rfl := Option.some.inj H
    obtain ⟨ASz35_0, cSz35_0, ASz35_1, cSz35_1, HGz35, hgz35, HSz35_0, HSz35_1⟩ := HI0.out
    have hcz35_0 := cellS28_0 HGz35
    have hcz35_1 := cellS28_1 HGz35
    clear HGz35 hgz35
    go_wp2
    go_ret
    exact ⟨by rfl, HI0.out, HB.out, HK.out⟩
def q25.f (k : Nat) (s0_0 : List (S86)) (s0_1 : List (List Int)) : Option (Int) := (q24.f k s0_0 s0_1).bind fun t702 => (if t702 = 0 then ((q26.f k s0_0 s0_1).bind fun t703 => (if t703 = true then ((q29.f s0_0 s0_1).bind fun t704 => (if t704 = true then (some 0) else (some 1))) else (some 1))) else (some t702))
theorem q25.mono : ∀ a0 a1 k, LeO (q25.f k a0 a1) (q25.f (k + 1) a0 a1) := by
 intro a0 a1 k
 unfold q25.f
 repeat' first | (with_reducible exact q24.mono _ _ _) | (with_reducible exact q26.mono _ _ _) | (with_reducible exact LeO.refl _) | (with_reducible refine LeO.ite ?_ ?_) | (with_reducible refine LeO.bind ?_ (fun _ => ?_))
set_option maxHeartbeats 8000000 in
set_option maxRecDepth 100000 in
theorem q25.calls (k : Nat) (g : Nat) (s0_0 : List (S86)) (s0_1 : List (List Int)) (r : Int) (w0 w : World) (hI : IsS28 w0 w g s0_0 s0_1) (hB : Below w0.heap.size w0 w) (h : q25.f k s0_0 s0_1 = some r) :
  Calls Tryz.prog 57 #[.pointer (some ⟨g, 0, none⟩)] w fun e w' => e = .returned (.int .i64 r) ∧ IsS28 w0 w' g s0_0 s0_1 ∧ Below w0.heap.size w0 w' ∧ KeepBut w w' g none := by
 have HI0 := Am hI
 have HK := Am (KeepBut.refl w g none)
 have HL := Am hB.size
 clear hI
 have HW0 := Am hB.size
 have HB := Am hB
 clear hB
 have H : ((q24.f k s0_0 s0_1).bind fun t702 => (if t702 = 0 then ((q26.f k s0_0 s0_1).bind fun t703 => (if t703 = true then ((q29.f s0_0 s0_1).bind fun t704 => (if t704 = true then (some 0) else (some 1))) else (some 1))) else (some t702))) = some r := h
 clear h
 replace H := zbs H
 obtain ⟨t702, A2, H⟩ := H
 by_cases c3 : t702 = 0
 ·rw [if_pos c3] at H
  have c3b0 : (t702 == 0) = true := beq_iff_eq.mpr c3
  have c3b1 : (t702 != 0) = false := bne_eq_false_iff_eq.mpr c3
  clear c3
  replace H := zbs H
  obtain ⟨t703, A4, H⟩ := H
  by_cases c5 : t703 = true
  ·subst c5
   have H1 : ((q29.f s0_0 s0_1).bind fun t704 => (if t704 = true then (some 0) else (some 1))) = some r := by rw [if_pos rfl] at H; exact H
   clear H
   have H := H1
   clear H1
   replace H := zbs H
   obtain ⟨t704, A6, H⟩ := H
   by_cases c7 : t704 = true
   ·subst c7
    have H1 : (some 0) = some r := by rw [if_pos rfl] at H; exact H
    clear H
    have H := H1
    clear H1
    obtain rfl := Option.some.inj H
    go_enter Tryz.func57, Tryz.ntmps57
    go_wp2_with (first | ((with_reducible refine gate_callee (f := 125) rfl ?_); refine goesL_ (some 5) rfl rfl Tryz.func125 (by kernel_rfl) rfl #[.pointer (some ⟨g, 0, none⟩)] rfl (by (try simp only [List.map_toArray, List.map_cons, List.map_nil]); rfl) ?_; (with_reducible refine (q24.calls k g s0_0 s0_1 t702 w0 _ ?side1 ?side2 A2.out).mono ?_); (case side1 => repeat ((with_reducible exact HI0.out))); (case side2 => repeat ((with_reducible exact HB.out))); rintro e w8 ⟨rfl, hi, hb, hk⟩; refine ⟨_, rfl, ?_⟩; replace HK := Am (KeepBut.trans HK.out hk (.inl rfl)); replace HB := Am hb; replace HI0 := Am hi; (try clear hb); (try clear hk); (try clear hi)) | ((with_reducible refine gate_callee (f := 126) rfl ?_); refine goesL_ (some 10) rfl rfl Tryz.func126 (by kernel_rfl) rfl #[.pointer (some ⟨g, 0, none⟩)] rfl (by (try simp only [List.map_toArray, List.map_cons, List.map_nil]); rfl) ?_; (with_reducible refine (q26.calls k g s0_0 s0_1 true w0 _ ?side1 ?side2 A4.out).mono ?_); (case side1 => repeat ((with_reducible exact HI0.out))); (case side2 => repeat ((with_reducible exact HB.out))); rintro e w9 ⟨rfl, hi, hb, hk⟩; refine ⟨_, rfl, ?_⟩; replace HK := Am (KeepBut.trans HK.out hk (.inl rfl)); replace HB := Am hb; replace HI0 := Am hi; (try clear hb); (try clear hk); (try clear hi)) | (go_at_call 127; (with_reducible refine (q29.calls g s0_0 s0_1 true w0 _ ?side1 ?side2 A6.out).mono ?_); (case side1 => repeat ((with_reducible exact HI0.out))); (case side2 => repeat ((with_reducible exact HB.out))); rintro e w10 ⟨rfl, hi, hb, hk⟩; replace HK := Am (KeepBut.trans HK.out hk (.inl rfl)); replace HB := Am hb; replace HI0 := Am hi; (try clear hb); (try clear hk); (try clear hi)))
    go_ret
    exact ⟨by rfl, HI0.out, HB.out, HK.out⟩
   ·replace c7 := Bool.eq_false_iff.mpr c7
    subst c7
    have H1 : (some 1) = some r := by rw [if_neg (show ¬ (false = true) by decide)] at H; exact H
    clear H
    have H := H1
    clear H1
    obtain rfl := Option.some.inj H
    go_enter Tryz.func57, Tryz.ntmps57
    go_wp2_with (first | ((with_reducible refine gate_callee (f := 125) rfl ?_); refine goesL_ (some 5) rfl rfl Tryz.func125 (by kernel_rfl) rfl #[.pointer (some ⟨g, 0, none⟩)] rfl (by (try simp only [List.map_toArray, List.map_cons, List.map_nil]); rfl) ?_; (with_reducible refine (q24.calls k g s0_0 s0_1 t702 w0 _ ?side1 ?side2 A2.out).mono ?_); (case side1 => repeat ((with_reducible exact HI0.out))); (case side2 => repeat ((with_reducible exact HB.out))); rintro e w11 ⟨rfl, hi, hb, hk⟩; refine ⟨_, rfl, ?_⟩; replace HK := Am (KeepBut.trans HK.out hk (.inl rfl)); replace HB := Am hb; replace HI0 := Am hi; (try clear hb); (try clear hk); (try clear hi)) | ((with_reducible refine gate_callee (f := 126) rfl ?_); refine goesL_ (some 10) rfl rfl Tryz.func126 (by kernel_rfl) rfl #[.pointer (some ⟨g, 0, none⟩)] rfl (by (try simp only [List.map_toArray, List.map_cons, List.map_nil]); rfl) ?_; (with_reducible refine (q26.calls k g s0_0 s0_1 true w0 _ ?side1 ?side2 A4.out).mono ?_); (case side1 => repeat ((with_reducible exact HI0.out))); (case side2 => repeat ((with_reducible exact HB.out))); rintro e w12 ⟨rfl, hi, hb, hk⟩; refine ⟨_, rfl, ?_⟩; replace HK := Am (KeepBut.trans HK.out hk (.inl rfl)); replace HB := Am hb; replace HI0 := Am hi; (try clear hb); (try clear hk); (try clear hi)) | (go_at_call 127; (with_reducible refine (q29.calls g s0_0 s0_1 false w0 _ ?side1 ?side2 A6.out).mono ?_); (case side1 => repeat ((with_reducible exact HI0.out))); (case side2 => repeat ((with_reducible exact HB.out))); rintro e w13 ⟨rfl, hi, hb, hk⟩; replace HK := Am (KeepBut.trans HK.out hk (.inl rfl)); replace HB := Am hb; replace HI0 := Am hi; (try clear hb); (try clear hk); (try clear hi)))
    go_ret
    exact ⟨by rfl, HI0.out, HB.out, HK.out⟩
  ·replace c5 := Bool.eq_false_iff.mpr c5
   subst c5
   have H1 : (some 1) = some r := by rw [if_neg (show ¬ (false = true) by decide)] at H; exact H
   clear H
   have H := H1
   clear H1
   obtain rfl := Option.some.inj H
   go_enter Tryz.func57, Tryz.ntmps57
   go_wp2_with (first | ((with_reducible refine gate_callee (f := 125) rfl ?_); refine goesL_ (some 5) rfl rfl Tryz.func125 (by kernel_rfl) rfl #[.pointer (some ⟨g, 0, none⟩)] rfl (by (try simp only [List.map_toArray, List.map_cons, List.map_nil]); rfl) ?_; (with_reducible refine (q24.calls k g s0_0 s0_1 t702 w0 _ ?side1 ?side2 A2.out).mono ?_); (case side1 => repeat ((with_reducible exact HI0.out))); (case side2 => repeat ((with_reducible exact HB.out))); rintro e w14 ⟨rfl, hi, hb, hk⟩; refine ⟨_, rfl, ?_⟩; replace HK := Am (KeepBut.trans HK.out hk (.inl rfl)); replace HB := Am hb; replace HI0 := Am hi; (try clear hb); (try clear hk); (try clear hi)) | ((with_reducible refine gate_callee (f := 126) rfl ?_); refine goesL_ (some 10) rfl rfl Tryz.func126 (by kernel_rfl) rfl #[.pointer (some ⟨g, 0, none⟩)] rfl (by (try simp only [List.map_toArray, List.map_cons, List.map_nil]); rfl) ?_; (with_reducible refine (q26.calls k g s0_0 s0_1 false w0 _ ?side1 ?side2 A4.out).mono ?_); (case side1 => repeat ((with_reducible exact HI0.out))); (case side2 => repeat ((with_reducible exact HB.out))); rintro e w15 ⟨rfl, hi, hb, hk⟩; refine ⟨_, rfl, ?_⟩; replace HK := Am (KeepBut.trans HK.out hk (.inl rfl)); replace HB := Am hb; replace HI0 := Am hi; (try clear hb); (try clear hk); (try clear hi)))
   go_ret
   exact ⟨by rfl, HI0.out, HB.out, HK.out⟩
 ·rw [if_neg c3] at H
  have c3b0 : (t702 == 0) = false := beq_eq_false_iff_ne.mpr c3
  have c3b1 : (t702 != 0) = true := bne_iff_ne.mpr c3
  obtain rfl := Option.some.inj H
  go_enter Tryz.func57, Tryz.ntmps57
  go_wp2_with (((with_reducible refine gate_callee (f := 125) rfl ?_); refine goesL_ (some 5) rfl rfl Tryz.func125 (by kernel_rfl) rfl #[.pointer (some ⟨g, 0, none⟩)] rfl (by (try simp only [List.map_toArray, List.map_cons, List.map_nil]); rfl) ?_; (with_reducible refine (q24.calls k g s0_0 s0_1 t702 w0 _ ?side1 ?side2 A2.out).mono ?_); (case side1 => repeat ((with_reducible exact HI0.out))); (case side2 => repeat ((with_reducible exact HB.out))); rintro e w16 ⟨rfl, hi, hb, hk⟩; refine ⟨_, rfl, ?_⟩; replace HK := Am (KeepBut.trans HK.out hk (.inl rfl)); replace HB := Am hb; replace HI0 := Am hi; (try clear hb); (try clear hk); (try clear hi)))
  go_ret
  exact ⟨by rfl, HI0.out, HB.out, HK.out⟩
end Go.Proofs.YtafhjhdohclchaaGreatDoor.G
namespace Go.Proofs.YtafhjhdohclchaaGreatDoor.G
open Go.RowKit Go.Proofs.YtafhjhdohclchaaGreatDoorW.PrintWords Go.Proofs.YtafhjhdohclchaaGreatDoorW.PrintLast Go.Proofs.YtafhjhdohclchaaGreatDoorW.PrintMore
attribute [local go_sem] min2_int min_two
theorem inode_both (x : S86) (hl : x.f3.length ≤ 4611686018427387904) (hn : ∀ e ∈ x.f4, e.f0.size ≤ 4611686018427387904) :
    ∃ r, Ev (fun k => qc.f k x.f0 x.f1 x.f2 x.f3 x.f4) r ∧ Ev (fun k => q1v.f k x.f0 x.f1 x.f2 x.f3 x.f4) (r, x.f0, x.f1, x.f2) ∧ (r = 0 → InodeOK x) := by
  obtain ⟨a, b, c, bl, es⟩ := x
  simp only at hl hn ⊢
  unfold qc.f q1v.f
  -- impl: the head hands a bool 'no file' on
  have hhead : ∀ {R : Int}, Ev (fun k => qc.j0 k (decide (b = 0 ∧ c = 0 ∧ bl = [])) a b c bl es) R → Ev (fun k => if b = 0 then if c = 0 then qc.j0 k ((bl.length : Int) == 0) a b c bl es else qc.j0 k false a b c bl es else qc.j0 k false a b c bl es) R := by
    intro R h
    by_cases hb : b = 0
    · by_cases hc : c = 0
      · refine Ev.ip hb (Ev.ip hc ?_)
        have e : ((bl.length : Int) == 0) = decide (b = 0 ∧ c = 0 ∧ bl = []) := by
          subst hb hc
          cases bl <;> simp
          omega
        rw [e]; exact h
      · refine Ev.ip hb (Ev.im hc ?_)
        have e : false = decide (b = 0 ∧ c = 0 ∧ bl = []) := by simp [hc]
        rw [e]; exact h
    · refine Ev.im hb ?_
      have e : false = decide (b = 0 ∧ c = 0 ∧ bl = []) := by simp [hb]
      rw [e]; exact h
  cases hk : inB a 0 2 with
  | false =>
    refine ⟨1, hhead (Ev.step (fun k => qc.j0.eq_2 ..) (Ev.bind (Ev.val fun _ => within_eq ..) (Ev.im (by rw [hk]; simp) (Ev.step (fun k => qc.j1.eq_2 ..) (Ev.ip (by rw [hk]; rfl) (Ev.now _)))))), Ev.bind (Ev.val fun _ => l1In_eq ..) (Ev.im (by rw [hk]; simp) (Ev.now _)), by omega⟩
  | true =>
    have hk' : 0 ≤ a ∧ a ≤ 2 := by simpa [inB] using hk
    by_cases h1 : a = 1
    · have h2 : ¬ a = 2 := by omega
      by_cases he : es = []
      · obtain ⟨r, ha, hb, hp⟩ := file_both a b c bl es hl
        have e1 : ¬ (!((es.length : Int) == 0)) = true := by subst he; simp
        have e2 : ¬ decide ((es.length : Int) > 0) = true := by subst he; simp
        refine ⟨r, hhead (Ev.step (fun k => qc.j0.eq_2 ..) (Ev.bind (Ev.val fun _ => within_eq ..) (Ev.ip hk (Ev.ip h1 (Ev.im h2 (Ev.step (fun k => qc.j1.eq_2 ..) (Ev.im e1 (Ev.ip h1 (Ev.bind ha (Ev.now _)))))))))), Ev.bind (Ev.val fun _ => l1In_eq ..) (Ev.ip hk (Ev.ip h1 (Ev.im h2 (Ev.step (fun k => q1v.j0.eq_2 ..) (Ev.im e2 (Ev.ip h1 (Ev.bind hb (Ev.now _)))))))), fun h0 => .inl ⟨h1, hp h0, he⟩⟩
      · have e1 : (!((es.length : Int) == 0)) = true := by cases es <;> simp_all <;> omega
        have e2 : decide ((es.length : Int) > 0) = true := by cases es <;> simp_all <;> omega
        exact ⟨1, hhead (Ev.step (fun k => qc.j0.eq_2 ..) (Ev.bind (Ev.val fun _ => within_eq ..) (Ev.ip hk (Ev.ip h1 (Ev.im h2 (Ev.step (fun k => qc.j1.eq_2 ..) (Ev.ip e1 (Ev.now _)))))))), Ev.bind (Ev.val fun _ => l1In_eq ..) (Ev.ip hk (Ev.ip h1 (Ev.im h2 (Ev.step (fun k => q1v.j0.eq_2 ..) (Ev.ip e2 (Ev.now _)))))), by omega⟩
    · by_cases hnf : b = 0 ∧ c = 0 ∧ bl = []
      · have hd : decide (b = 0 ∧ c = 0 ∧ bl = []) = true := decide_eq_true hnf
        obtain ⟨hb0, hc0, hbl0⟩ := hnf
        have hl0 : ¬ (bl.length : Int) > 0 := by subst hbl0; simp
        by_cases h2 : a = 2
        · obtain ⟨r, ha, hb, hp⟩ := dir_both es a b c bl hn
          exact ⟨r, hhead (Ev.step (fun k => qc.j0.eq_2 ..) (Ev.bind (Ev.val fun _ => within_eq ..) (Ev.ip hk (Ev.im h1 (Ev.ip hd (Ev.ip h2 (Ev.step (fun k => qc.j1.eq_2 ..) (Ev.im (by simp) (Ev.im h1 (Ev.bind ha (Ev.now _))))))))))), Ev.bind (Ev.val fun _ => l1In_eq ..) (Ev.ip hk (Ev.im h1 (Ev.ip hb0 (Ev.ip hc0 (Ev.im hl0 (Ev.ip h2 (Ev.step (fun k => q1v.j0.eq_2 ..) (Ev.im (by simp) (Ev.im h1 (Ev.ip h2 (Ev.bind hb (Ev.now _)))))))))))), fun h0 => .inr (.inl ⟨h2, hb0, hc0, hbl0, hp h0⟩)⟩
        · by_cases he : es = []
          · have e1 : ¬ (!((es.length : Int) == 0)) = true := by subst he; simp
            have e2 : ¬ decide ((es.length : Int) > 0) = true := by subst he; simp
            have hdz : Ev (fun k => q8.f k a b c bl es) 0 := by
              unfold q8.f
              subst he
              exact Ev.im (by simp) (Ev.step (fun k => q8.l0.eq_2 ..) (Ev.im (by simp) (Ev.now _)))
            exact ⟨0, hhead (Ev.step (fun k => qc.j0.eq_2 ..) (Ev.bind (Ev.val fun _ => within_eq ..) (Ev.ip hk (Ev.im h1 (Ev.ip hd (Ev.im h2 (Ev.step (fun k => qc.j1.eq_2 ..) (Ev.im e1 (Ev.im h1 (Ev.bind hdz (Ev.now _))))))))))), Ev.bind (Ev.val fun _ => l1In_eq ..) (Ev.ip hk (Ev.im h1 (Ev.ip hb0 (Ev.ip hc0 (Ev.im hl0 (Ev.im h2 (Ev.step (fun k => q1v.j0.eq_2 ..) (Ev.im e2 (Ev.im h1 (Ev.im h2 (Ev.now _))))))))))), fun _ => .inr (.inr ⟨show a = 0 by omega, hb0, hc0, hbl0, he⟩)⟩
          · have e1 : (!((es.length : Int) == 0)) = true := by cases es <;> simp_all <;> omega
            have e2 : decide ((es.length : Int) > 0) = true := by cases es <;> simp_all <;> omega
            exact ⟨1, hhead (Ev.step (fun k => qc.j0.eq_2 ..) (Ev.bind (Ev.val fun _ => within_eq ..) (Ev.ip hk (Ev.im h1 (Ev.ip hd (Ev.im h2 (Ev.step (fun k => qc.j1.eq_2 ..) (Ev.ip e1 (Ev.now _))))))))), Ev.bind (Ev.val fun _ => l1In_eq ..) (Ev.ip hk (Ev.im h1 (Ev.ip hb0 (Ev.ip hc0 (Ev.im hl0 (Ev.im h2 (Ev.step (fun k => q1v.j0.eq_2 ..) (Ev.ip e2 (Ev.now _))))))))), by omega⟩
      · have hd : ¬ decide (b = 0 ∧ c = 0 ∧ bl = []) = true := fun h => hnf (of_decide_eq_true h)
        have hd' : (!decide (b = 0 ∧ c = 0 ∧ bl = [])) = true := by rw [Bool.not_eq_true', decide_eq_false_iff_not]; exact hnf
        refine ⟨1, hhead (Ev.step (fun k => qc.j0.eq_2 ..) (Ev.bind (Ev.val fun _ => within_eq ..) (Ev.ip hk (Ev.im h1 (Ev.im hd (Ev.step (fun k => qc.j1.eq_2 ..) (Ev.ip hd' (Ev.now _)))))))), Ev.bind (Ev.val fun _ => l1In_eq ..) (Ev.ip hk (Ev.im h1 ?_)), by omega⟩
        have hj : Ev (fun k => q1v.j0 k true a b c bl es) (1, a, b, c) := Ev.step (fun k => q1v.j0.eq_2 ..) (Ev.ip rfl (Ev.now _))
        by_cases hb : b = 0
        · by_cases hc : c = 0
          · have hl0 : (bl.length : Int) > 0 := by
              have : bl ≠ [] := fun e => hnf ⟨hb, hc, e⟩
              have := List.length_pos_iff.2 this
              omega
            exact Ev.ip hb (Ev.ip hc (Ev.ip hl0 hj))
          · exact Ev.ip hb (Ev.im hc hj)
        · exact Ev.im hb hj
/-- what a file system's lists weigh -/
def SzI (x : S86) : Prop := x.f3.length ≤ 1048576 ∧ x.f4.length ≤ 1048576 ∧ ∀ e ∈ x.f4, e.f0.size ≤ 1048576
theorem inodes_loop (xs : List S86) (h10 : xs.length ≤ 10) (hs : ∀ x ∈ xs, SzI x) : ∀ (d i : Nat), xs.length = i + d → (∀ j (h : j < xs.length), j < i → InodeOK xs[j]) →
    ∃ r, Ev (fun k => qd.l0 k xs (xs.length : Int) (i : Int)) r ∧ Ev (fun k => q21.l0 k (i : Int) xs) r ∧ (r = 0 → ∀ x ∈ xs, InodeOK x) := by
  intro d
  induction d with
  | zero =>
    intro i hl hj
    refine ⟨0, Ev.step (fun k => qd.l0.eq_2 ..) (Ev.im (by omega) (Ev.now _)), Ev.step (fun k => q21.l0.eq_2 ..) (Ev.im (by omega) (Ev.now _)), fun _ x hx => ?_⟩
    obtain ⟨j, hj1, rfl⟩ := List.getElem_of_mem hx
    exact hj j hj1 (by omega)
  | succ d ih =>
    intro i hl hj
    have hi : i < xs.length := by omega
    have hz := hs _ (List.getElem_mem hi)
    obtain ⟨t, ha, hb, hp⟩ := inode_both xs[i] (by have := hz.1; omega) (fun e he => by have := hz.2.2 e he; omega)
    rw [← rdT_eq xs i hi] at ha hb
    by_cases ht : t = 0
    case neg => exact ⟨t, Ev.step (fun k => qd.l0.eq_2 ..) (Ev.ip (by omega) (Ev.ip (by omega) (Ev.ip (by omega) (Ev.bind ha (Ev.im ht (Ev.now _)))))), Ev.step (fun k => q21.l0.eq_2 ..) (Ev.ip (by omega) (Ev.bind hb (Ev.im ht (Ev.now _)))), fun h => absurd h ht⟩
    obtain ⟨r, iha, ihb, ihp⟩ := ih (i + 1) (by omega) (fun j hj1 hj2 => by
      by_cases e : j = i
      · subst e; exact hp ht
      · exact hj j hj1 (by omega))
    rw [← w1 i (by omega)] at iha
    exact ⟨r, Ev.step (fun k => qd.l0.eq_2 ..) (Ev.ip (by omega) (Ev.ip (by omega) (Ev.ip (by omega) (Ev.bind ha (Ev.ip ht iha))))), Ev.step (fun k => q21.l0.eq_2 ..) (Ev.ip (by omega) (Ev.bind hb (Ev.ip ht ihb))), ihp⟩
theorem inodes_both (xs : List S86) (hs : ∀ x ∈ xs, SzI x) :
    ∃ r, Ev (fun k => qd.f k xs) r ∧ Ev (fun k => q21.f k xs) r ∧ (r = 0 → xs.length ≤ 10 ∧ ∀ x ∈ xs, InodeOK x) := by
  unfold qd.f q21.f
  by_cases h : (xs.length : Int) > 10
  · exact ⟨2, Ev.ip h (Ev.now _), Ev.ip h (Ev.now _), by omega⟩
  · obtain ⟨r, ha, hb, hp⟩ := inodes_loop xs (by omega) hs xs.length 0 (by omega) (fun j _ hj => by omega)
    exact ⟨r, Ev.im h ha, Ev.im h hb, fun h0 => ⟨by omega, hp h0⟩⟩
/-- all blocks of files -/
def blocksL (xs : List S86) : List Int := xs.flatMap (·.f3)
theorem InodeOK.bl {x : S86} (h : InodeOK x) : x.f3.length ≤ 4 ∧ ∀ b ∈ x.f3, 0 ≤ b ∧ b ≤ 19 := by
  rcases h with ⟨_, h, _⟩ | ⟨_, _, _, h, _⟩ | ⟨_, _, _, h, _⟩
  · have := h.len; have := h.size
    exact ⟨by omega, h.rng⟩
  · rw [h]; simp
  · rw [h]; simp
theorem InodeOK.es {x : S86} (h : InodeOK x) : x.f4.length ≤ 6 ∧ ∀ e ∈ x.f4, NameOK e.f0 ∧ 0 ≤ e.f1 ∧ e.f1 ≤ 9 := by
  rcases h with ⟨_, _, h⟩ | ⟨_, _, _, _, h⟩ | ⟨_, _, _, _, h⟩
  · rw [h]; simp
  · exact ⟨h.len, h.nm⟩
  · rw [h]; simp
theorem compact_len_iff {α : Type} [Inhabited α] [DecidableEq α] (zs : List α) : (Lib.compact zs).length = zs.length ↔ ∀ j (h : j + 1 < zs.length), zs[j + 1] ≠ zs[j] := by
  unfold Lib.compact Lib.compactUpTo
  rw [List.length_map]
  have e : ((List.range zs.length).filter (Lib.keeps zs.toArray)).length = zs.length ↔ ∀ j, j < zs.length → Lib.keeps zs.toArray j = true := by
    constructor
    · intro h j hj
      have h2 : ((List.range zs.length).filter (Lib.keeps zs.toArray)).length = (List.range zs.length).length := by rw [h, List.length_range]
      exact List.length_filter_eq_length_iff.1 h2 j (List.mem_range.2 hj)
    · intro h
      rw [List.length_filter_eq_length_iff.2 (fun j hj => h j (List.mem_range.1 hj)), List.length_range]
  rw [e]
  constructor
  · intro h j hj
    have := h (j + 1) hj
    simpa [Lib.keeps, getElem!_pos, hj, show j < zs.length by omega] using this
  · intro h j hj
    cases j with
    | zero => simp [Lib.keeps]
    | succ j => simpa [Lib.keeps, getElem!_pos, hj, show j < zs.length by omega] using h j hj
theorem sorted_nodup (l : List Int) (hs : l.Pairwise (· ≤ ·)) : (∀ j (h : j + 1 < l.length), l[j + 1] ≠ l[j]) ↔ l.Nodup := by
  constructor
  · intro h
    have hlt : ∀ d j (hj : j + d + 1 < l.length), l[j]'(by omega) < l[j + d + 1] := by
      intro d
      induction d with
      | zero =>
        intro j hj
        have h1 := List.pairwise_iff_getElem.1 hs j (j + 1) (by omega) (by omega) (by omega)
        have h2 := h j hj
        show l[j]'_ < l[j + 1]
        omega
      | succ d ih =>
        intro j hj
        have h1 := ih j (by omega)
        have h2 := List.pairwise_iff_getElem.1 hs (j + d + 1) (j + (d + 1) + 1) (by omega) hj (by omega)
        omega
    rw [List.nodup_iff_pairwise_ne, List.pairwise_iff_getElem]
    intro i j hi hj hij
    have := hlt (j - i - 1) i (by omega)
    have e : i + (j - i - 1) + 1 = j := by omega
    simp only [e] at this
    omega
  · intro h j hj
    rw [List.nodup_iff_pairwise_ne, List.pairwise_iff_getElem] at h
    exact fun e => h j (j + 1) (by omega) hj (by omega) e.symm
theorem compact_sorted (l : List Int) : (Lib.compact (l.mergeSort fun x y => decide (x ≤ y))).length = (l.mergeSort fun x y => decide (x ≤ y)).length ↔ l.Nodup := by
  rw [compact_len_iff, sorted_nodup]
  · exact (List.mergeSort_perm l _).nodup_iff
  · have := List.pairwise_mergeSort (le := fun x y : Int => decide (x ≤ y)) (by intro a b c; simp; omega) (by intro a b; simp; omega) l
    exact this.imp (by intro a b; simp)
theorem used_loop (xs : List S86) (h10 : xs.length ≤ 10) (hok : ∀ x ∈ xs, InodeOK x) : ∀ (d i : Nat) (acc : List Int), xs.length = i + d → acc.length ≤ 4 * i →
    Ev (fun k => qq.l0 k acc xs (xs.length : Int) (i : Int)) ((acc ++ blocksL (xs.drop i)).mergeSort (fun x y => decide (x ≤ y)), decide (acc ++ blocksL (xs.drop i)).Nodup) := by
  intro d
  induction d with
  | zero =>
    intro i acc hl ha
    rw [List.drop_of_length_le (by omega)]
    simp only [blocksL, List.flatMap_nil, List.append_nil]
    have hs : ∀ k : Nat, slices_Sort_int64_int64.f acc = some (acc.mergeSort fun x y => decide (x ≤ y)) := fun _ => by unfold slices_Sort_int64_int64.f; rw [if_pos (by omega)]
    have hc : ∀ k : Nat, q1i.f (acc.mergeSort fun x y => decide (x ≤ y)) = some (acc.mergeSort fun x y => decide (x ≤ y)) := fun _ => by unfold q1i.f; rw [if_pos (by rw [List.length_mergeSort]; omega)]
    refine Ev.step (fun k => qq.l0.eq_2 ..) (Ev.im (by omega) (Ev.bind (Ev.val hs) (Ev.bind (Ev.val hc) (Ev.bind (Ev.val fun _ => rfl) (Ev.val fun _ => ?_)))))
    congr 2
    have := compact_sorted acc
    rw [List.length_mergeSort] at this
    rw [Bool.eq_iff_iff]
    simp only [beq_iff_eq, decide_eq_true_eq]
    rw [← this]
    omega
  | succ d ih =>
    intro i acc hl ha
    have hi : i < xs.length := by omega
    have hb := (hok _ (List.getElem_mem hi)).bl.1
    have h := ih (i + 1) (acc ++ (rd_T86 xs (i : Int)).f3) (by omega) (by rw [rdT_eq xs i hi, List.length_append]; omega)
    rw [← w1 i (by omega)] at h
    have e : blocksL (xs.drop i) = (rd_T86 xs (i : Int)).f3 ++ blocksL (xs.drop (i + 1)) := by rw [List.drop_eq_getElem_cons hi, rdT_eq xs i hi]; rfl
    rw [e, ← List.append_assoc]
    exact Ev.step (fun k => qq.l0.eq_2 ..) (Ev.ip (by omega) (Ev.ip (by omega) (Ev.ip (by omega) (Ev.ip (by rw [rdT_eq xs i hi]; omega) h))))
theorem used_ev (xs : List S86) (h10 : xs.length ≤ 10) (hok : ∀ x ∈ xs, InodeOK x) : Ev (fun k => qq.f k xs) ((blocksL xs).mergeSort (fun x y => decide (x ≤ y)), decide (blocksL xs).Nodup) := by
  have := used_loop xs h10 hok xs.length 0 [] (by omega) (by simp)
  simpa [qq.f] using this
theorem count_l1 (xs : List S86) (a : Int) (i : Nat) (hi : i < xs.length) (h3 : xs[i].f3.length ≤ 4) {R : Int} : ∀ (d j : Nat) (n : Int), xs[i].f3.length = j + d → 0 ≤ n → n + d ≤ 1000 →
    Ev (fun k => q20.l0 k xs a (n + ((xs[i].f3.drop j).count a : Int)) ((i + 1 : Nat) : Int)) R → i < 1000000 → Ev (fun k => q20.l1 k xs a n (i : Int) (j : Int)) R := by
  intro d
  induction d with
  | zero =>
    intro j n he h0 h1 hR hs
    rw [List.drop_of_length_le (by omega)] at hR
    rw [← w1 i (by omega)] at hR
    simp only [List.count_nil, Int.natCast_zero, Int.add_zero] at hR
    exact Ev.step (fun k => q20.l1.eq_2 ..) (Ev.ip (by omega) (Ev.ip (by omega) (Ev.im (by rw [rdT_eq xs i hi]; omega) hR)))
  | succ d ih =>
    intro j n he h0 h1 hR hs
    have hj : j < xs[i].f3.length := by omega
    have hx := rdT_eq xs i hi
    rw [List.drop_eq_getElem_cons hj, List.count_cons] at hR
    by_cases e : rd (rd_T86 xs (i : Int)).f3 (j : Int) = a
    · have e' : xs[i].f3[j] = a := by rw [hx, rd_eq _ j hj] at e; exact e
      rw [e'] at hR
      simp only [beq_self_eq_true, if_true] at hR
      have h := ih (j + 1) (n + 1) (by omega) (by omega) (by omega) (by
        rw [show n + 1 + ((xs[i].f3.drop (j + 1)).count a : Int) = n + (((xs[i].f3.drop (j + 1)).count a + 1 : Nat) : Int) by omega]; exact hR) hs
      rw [← w1 j (by omega), ← w64_id (n + 1) (by omega) (by omega)] at h
      exact Ev.step (fun k => q20.l1.eq_2 ..) (Ev.ip (by omega) (Ev.ip (by omega) (Ev.ip (by rw [hx]; omega) (Ev.ip (by omega) (Ev.ip e h)))))
    · have e' : ¬ xs[i].f3[j] = a := by rw [hx, rd_eq _ j hj] at e; exact e
      have e2 : (xs[i].f3[j] == a) = false := by simpa using e'
      rw [e2] at hR
      have h := ih (j + 1) n (by omega) h0 (by omega) (by simpa using hR) hs
      rw [← w1 j (by omega)] at h
      exact Ev.step (fun k => q20.l1.eq_2 ..) (Ev.ip (by omega) (Ev.ip (by omega) (Ev.ip (by rw [hx]; omega) (Ev.ip (by omega) (Ev.im e h)))))
theorem count_loop (xs : List S86) (a : Int) (h10 : xs.length ≤ 10) (hok : ∀ x ∈ xs, x.f3.length ≤ 4) : ∀ (d i : Nat) (n : Int), xs.length = i + d → 0 ≤ n → n ≤ 4 * i → Ev (fun k => q20.l0 k xs a n (i : Int)) (n + ((blocksL (xs.drop i)).count a : Int)) := by
  intro d
  induction d with
  | zero =>
    intro i n hl h0 h1
    rw [List.drop_of_length_le (by omega)]
    simp only [blocksL, List.flatMap_nil, List.count_nil, Int.natCast_zero, Int.add_zero]
    exact Ev.step (fun k => q20.l0.eq_2 ..) (Ev.im (by omega) (Ev.now _))
  | succ d ih =>
    intro i n hl h0 h1
    have hi : i < xs.length := by omega
    have h3 := hok _ (List.getElem_mem hi)
    have hc : xs[i].f3.count a ≤ xs[i].f3.length := List.count_le_length
    have h := ih (i + 1) (n + (xs[i].f3.count a : Int)) (by omega) (by omega) (by omega)
    have e : blocksL (xs.drop i) = xs[i].f3 ++ blocksL (xs.drop (i + 1)) := by rw [List.drop_eq_getElem_cons hi]; rfl
    rw [e, List.count_append, show n + (((xs[i].f3.count a + (blocksL (xs.drop (i + 1))).count a) : Nat) : Int) = n + (xs[i].f3.count a : Int) + ((blocksL (xs.drop (i + 1))).count a : Int) by omega]
    exact Ev.step (fun k => q20.l0.eq_2 ..) (Ev.ip (by omega) (count_l1 xs a i hi h3 xs[i].f3.length 0 n (by omega) h0 (by omega) (by simpa using h) (by omega)))
theorem count_ev (xs : List S86) (a : Int) (h10 : xs.length ≤ 10) (hok : ∀ x ∈ xs, x.f3.length ≤ 4) : Ev (fun k => q20.f k xs a) ((blocksL xs).count a : Int) := by
  have := count_loop xs a h10 hok xs.length 0 0 (by omega) (by omega) (by omega)
  simpa [q20.f] using this
theorem l5Used_loop (xs : List S86) (h10 : xs.length ≤ 10) (hok : ∀ x ∈ xs, x.f3.length ≤ 4) : ∀ (d i : Nat) (acc : List Int) (o : Bool), 20 = i + d → acc.length ≤ i →
    Ev (fun k => q23.l0 k xs acc o (i : Int)) (acc ++ ((List.range' i d).map fun n : Nat => (n : Int)).filter (fun b => decide (0 < (blocksL xs).count b)), o && ((List.range' i d).map fun n : Nat => (n : Int)).all (fun b => decide ((blocksL xs).count b ≤ 1))) := by
  intro d
  induction d with
  | zero =>
    intro i acc o he ha
    simp only [List.range'_zero, List.map_nil, List.filter_nil, List.append_nil, List.all_nil, Bool.and_true]
    exact Ev.step (fun k => q23.l0.eq_2 ..) (Ev.im (by omega) (Ev.now _))
  | succ d ih =>
    intro i acc o he ha
    have hc := count_ev xs (i : Int) h10 hok
    have hi20 : (i : Int) < 20 := by omega
    simp only [List.range'_succ, List.map_cons, List.filter_cons, List.all_cons]
    by_cases h0 : ((blocksL xs).count (i : Int) : Int) > 0
    · have e0 : decide (0 < (blocksL xs).count (i : Int)) = true := decide_eq_true (by omega)
      rw [e0, if_pos rfl]
      have ih1 := ih (i + 1) (acc ++ [(i : Int)]) (o && decide ((blocksL xs).count (i : Int) ≤ 1)) (by omega) (by simp; omega)
      rw [← w1 i (by omega), List.append_assoc, Bool.and_assoc] at ih1
      refine Ev.step (fun k => q23.l0.eq_2 ..) (Ev.ip hi20 (Ev.bind hc (Ev.ip h0 (Ev.ip (by omega) (Ev.bind (Ev.val fun _ => rfl) ?_)))))
      cases o with
      | true => refine Ev.ip rfl ?_; simpa [show ∀ m : Nat, decide ((m : Int) ≤ 1) = decide (m ≤ 1) from fun m => decide_eq_decide.2 (by omega)] using ih1
      | false => refine Ev.im (by simp) ?_; simpa using ih1
    · have e0 : ¬ decide (0 < (blocksL xs).count (i : Int)) = true := fun h => by have := of_decide_eq_true h; omega
      rw [if_neg e0]
      have ih1 := ih (i + 1) acc (o && decide ((blocksL xs).count (i : Int) ≤ 1)) (by omega) (by omega)
      rw [← w1 i (by omega), Bool.and_assoc] at ih1
      refine Ev.step (fun k => q23.l0.eq_2 ..) (Ev.ip hi20 (Ev.bind hc (Ev.im h0 ?_)))
      cases o with
      | true => refine Ev.ip rfl ?_; simpa [show ∀ m : Nat, decide ((m : Int) ≤ 1) = decide (m ≤ 1) from fun m => decide_eq_decide.2 (by omega)] using ih1
      | false => refine Ev.im (by simp) ?_; simpa using ih1
theorem l5Used_ev (xs : List S86) (h10 : xs.length ≤ 10) (hok : ∀ x ∈ xs, InodeOK x) : ∃ l, Ev (fun k => q23.f k xs) (l, decide (blocksL xs).Nodup) := by
  have h := l5Used_loop xs h10 (fun x hx => (hok x hx).bl.1) 20 0 [] true (by omega) (by simp)
  have e : (true && ((List.range' 0 20).map fun n : Nat => (n : Int)).all (fun b => decide ((blocksL xs).count b ≤ 1))) = decide (blocksL xs).Nodup := by
    rw [Bool.true_and, Bool.eq_iff_iff]
    simp only [List.all_eq_true, decide_eq_true_eq, List.nodup_iff_count]
    constructor
    · intro h a
      by_cases ha : a ∈ blocksL xs
      · obtain ⟨x, hx, hb⟩ := List.mem_flatMap.1 ha
        have := (hok x hx).bl.2 a hb
        refine h a (List.mem_map.2 ⟨a.toNat, ?_, by omega⟩)
        rw [List.mem_range'_1]
        omega
      · rw [List.count_eq_zero_of_not_mem ha]; omega
    · intro h b _
      exact h b
  rw [e] at h
  exact ⟨_, h⟩
end Go.Proofs.YtafhjhdohclchaaGreatDoor.G
namespace Go.Proofs.YtafhjhdohclchaaGreatDoor.G
open Go.RowKit Go.Proofs.YtafhjhdohclchaaGreatDoorW.PrintWords Go.Proofs.YtafhjhdohclchaaGreatDoorW.PrintLast Go.Proofs.YtafhjhdohclchaaGreatDoorW.PrintMore
attribute [local go_sem] min2_int min_two
theorem rdL_eq (xs : List (List Int)) (i : Nat) (h : i < xs.length) : rd_L1 xs (i : Int) = xs[i] := by simp [rd_L1, List.getD_eq_getElem?_getD, List.getElem?_eq_getElem h]
/-- what the code of the root says -/
structure RootOK (ins : List S86) (data : List (List Int)) : Prop where
  len : ins.length ≤ 10
  pos : 0 < ins.length
  ino : ∀ x ∈ ins, InodeOK x
  root : (rd_T86 ins 0).f0 = 2
  d20 : data.length = 20
theorem idxd_ev (xs : List (List Int)) (hl : xs.length ≤ 4611686018427387904) : ∀ (d i : Nat), xs.length = i + d →
    ∃ m, Ev (fun k => q1m.l0 k xs (xs.length : Int) (i : Int)) m ∧ ((xs.drop i).all (fun b => decide (b.length ≤ 8)) = true → m = -1) ∧ ((xs.drop i).all (fun b => decide (b.length ≤ 8)) = false → 0 ≤ m) := by
  intro d
  induction d with
  | zero =>
    intro i he
    exact ⟨-1, Ev.step (fun k => q1m.l0.eq_2 ..) (Ev.im (by omega) (Ev.now _)), fun _ => rfl, fun h => by rw [List.drop_of_length_le (by omega)] at h; simp at h⟩
  | succ d ih =>
    intro i he
    have hi : i < xs.length := by omega
    have hd : xs.drop i = rd_L1 xs i :: xs.drop (i + 1) := by rw [rdL_eq xs i hi]; exact List.drop_eq_getElem_cons hi
    rw [hd, List.all_cons]
    by_cases h8 : (rd_L1 xs (i : Int)).length ≤ 8
    · obtain ⟨m, ha, h1, h2⟩ := ih (i + 1) (by omega)
      rw [← w1 i (by omega)] at ha
      have e8 : ¬ decide (((rd_L1 xs (i : Int)).length : Int) > 8) = true := fun h => by have := of_decide_eq_true h; omega
      exact ⟨m, Ev.step (fun k => q1m.l0.eq_2 ..) (Ev.ip (by omega) (Ev.ip (by omega) (Ev.ip (by omega) (Ev.bind (Ev.val fun _ => rfl) (Ev.im e8 ha))))), by simpa [h8] using h1, by simpa [h8] using h2⟩
    · have e8 : decide (((rd_L1 xs (i : Int)).length : Int) > 8) = true := decide_eq_true (by omega)
      exact ⟨i, Ev.step (fun k => q1m.l0.eq_2 ..) (Ev.ip (by omega) (Ev.ip (by omega) (Ev.ip (by omega) (Ev.bind (Ev.val fun _ => rfl) (Ev.ip e8 (Ev.now _)))))), fun h => by simp [h8] at h, fun _ => by omega⟩
theorem contd_ev (xs : List (List Int)) (hl : xs.length ≤ 4611686018427387904) : Ev (fun k => q1j.f k xs) (!xs.all (fun b => decide (b.length ≤ 8))) := by
  obtain ⟨m, ha, h1, h2⟩ := idxd_ev xs hl xs.length 0 (by omega)
  unfold q1j.f q1m.f
  refine Ev.bind (a := m) ha (Ev.val fun _ => ?_)
  rw [List.drop_zero] at h1 h2
  cases h : xs.all (fun b => decide (b.length ≤ 8)) with
  | true => rw [h1 h]; simp
  | false => have := h2 h; simp; omega
section
variable (ins : List S86) (data : List (List Int))
theorem l6e_l0_ok (hl : data.length ≤ 4611686018427387904) {bl : List Int} {u : Bool} (hu : Ev (fun k => q23.f k ins) (bl, u)) {R : Int} (hR : Ev (fun k => if u = true then q24.l1 k 0 ins data else some 7) R) : ∀ (d i : Nat), data.length = i + d → (data.drop i).all (fun b => decide (b.length ≤ 8)) = true → Ev (fun k => q24.l0 k (i : Int) ins data) R := by
  intro d
  induction d with
  | zero => exact fun i he _ => Ev.step (fun k => q24.l0.eq_2 ..) (Ev.im (by omega) (Ev.bind hu hR))
  | succ d ih =>
    intro i he hal
    have hi : i < data.length := by omega
    rw [show data.drop i = rd_L1 data i :: data.drop (i + 1) by rw [rdL_eq data i hi]; exact List.drop_eq_getElem_cons hi, List.all_cons, Bool.and_eq_true, decide_eq_true_eq] at hal
    have ha := ih (i + 1) (by omega) hal.2
    rw [← w1 i (by omega)] at ha
    exact Ev.step (fun k => q24.l0.eq_2 ..) (Ev.ip (by omega) (Ev.ip (by omega) (Ev.im (by have := hal.1; omega) ha)))
theorem l6e_l0_no (hl : data.length ≤ 4611686018427387904) : ∀ (d i : Nat), data.length = i + d → (data.drop i).all (fun b => decide (b.length ≤ 8)) = false → Ev (fun k => q24.l0 k (i : Int) ins data) 2 := by
  intro d
  induction d with
  | zero => exact fun i he h => by rw [List.drop_of_length_le (by omega)] at h; simp at h
  | succ d ih =>
    intro i he hal
    have hi : i < data.length := by omega
    rw [show data.drop i = rd_L1 data i :: data.drop (i + 1) by rw [rdL_eq data i hi]; exact List.drop_eq_getElem_cons hi, List.all_cons] at hal
    by_cases h8 : (rd_L1 data (i : Int)).length ≤ 8
    · have ha := ih (i + 1) (by omega) (by simpa [h8] using hal)
      rw [← w1 i (by omega)] at ha
      exact Ev.step (fun k => q24.l0.eq_2 ..) (Ev.ip (by omega) (Ev.ip (by omega) (Ev.im (by omega) ha)))
    · exact Ev.step (fun k => q24.l0.eq_2 ..) (Ev.ip (by omega) (Ev.ip (by omega) (Ev.ip (by omega) (Ev.now _))))
/-- where an entry leads there is something -/
def EntOK (e : S143) : Prop := 0 ≤ e.f1 ∧ e.f1 < (ins.length : Int) ∧ (rd_T86 ins e.f1).f0 ≠ 0
theorem ent_inner (h10 : ins.length ≤ 10) (i : Nat) (hi : i < ins.length) (hok : InodeOK ins[i]) {P : Prop} {r : Int} (hA : Ev (fun k => qo.l0 k ins (ins.length : Int) ((i + 1 : Nat) : Int) ins data) r) (hB : Ev (fun k => q24.l1 k ((i + 1 : Nat) : Int) ins data) r) (hP : r = 0 → P) :
    ∀ (d j : Nat), ins[i].f4.length = j + d → ∃ r, Ev (fun k => qo.l1 k ins (ins.length : Int) (i : Int) (rd_T86 ins (i : Int)).f4 ((rd_T86 ins (i : Int)).f4.length : Int) (j : Int) ins data) r ∧ Ev (fun k => q24.l2 k (i : Int) (j : Int) ins data) r ∧ (r = 0 → P ∧ ∀ e ∈ ins[i].f4.drop j, EntOK ins e) := by
  have hx := rdT_eq ins i hi
  have h6 := hok.es
  intro d
  induction d with
  | zero =>
    intro j he
    rw [← w1 i (by omega)] at hA hB
    refine ⟨r, Ev.step (fun k => qo.l1.eq_2 ..) (Ev.im (by rw [hx]; omega) hA), Ev.step (fun k => q24.l2.eq_2 ..) (Ev.ip (by omega) (Ev.ip (by omega) (Ev.im (by rw [hx]; omega) hB))), fun h0 => ⟨hP h0, fun e hd => ?_⟩⟩
    rw [List.drop_of_length_le (by omega)] at hd
    cases hd
  | succ d ih =>
    intro j he
    have hj : j < ins[i].f4.length := by omega
    have hy : rd_T143 (rd_T86 ins (i : Int)).f4 (j : Int) = ins[i].f4[j] := by rw [hx, rdE_eq _ j hj]
    have he2 := h6.2 _ (List.getElem_mem hj)
    rw [← hy] at he2
    by_cases hge : (rd_T143 (rd_T86 ins (i : Int)).f4 (j : Int)).f1 ≥ (ins.length : Int)
    · exact ⟨4, Ev.step (fun k => qo.l1.eq_2 ..) (Ev.ip (by rw [hx]; omega) (Ev.ip (by omega) (Ev.ip (by rw [hx]; omega) (Ev.bind (Ev.val fun _ => rfl) (Ev.ip hge (Ev.now _)))))), Ev.step (fun k => q24.l2.eq_2 ..) (Ev.ip (by omega) (Ev.ip (by omega) (Ev.ip (by rw [hx]; omega) (Ev.ip (by omega) (Ev.ip hge (Ev.now _)))))), by omega⟩
    have hlt : (rd_T143 (rd_T86 ins (i : Int)).f4 (j : Int)).f1 < (ins.length : Int) := by omega
    by_cases h0 : (rd_T86 ins (rd_T143 (rd_T86 ins (i : Int)).f4 (j : Int)).f1).f0 = 0
    · exact ⟨4, Ev.step (fun k => qo.l1.eq_2 ..) (Ev.ip (by rw [hx]; omega) (Ev.ip (by omega) (Ev.ip (by rw [hx]; omega) (Ev.bind (Ev.val fun _ => rfl) (Ev.im hge (Ev.ip he2.2.1 (Ev.ip hlt (Ev.ip h0 (Ev.now _))))))))), Ev.step (fun k => q24.l2.eq_2 ..) (Ev.ip (by omega) (Ev.ip (by omega) (Ev.ip (by rw [hx]; omega) (Ev.ip (by omega) (Ev.im hge (Ev.ip he2.2.1 (Ev.ip hlt (Ev.ip h0 (Ev.now _))))))))), by omega⟩
    obtain ⟨r', ha, hb, hp⟩ := ih (j + 1) (by omega)
    rw [← w1 j (by omega)] at ha hb
    refine ⟨r', Ev.step (fun k => qo.l1.eq_2 ..) (Ev.ip (by rw [hx]; omega) (Ev.ip (by omega) (Ev.ip (by rw [hx]; omega) (Ev.bind (Ev.val fun _ => rfl) (Ev.im hge (Ev.ip he2.2.1 (Ev.ip hlt (Ev.im h0 ha)))))))), Ev.step (fun k => q24.l2.eq_2 ..) (Ev.ip (by omega) (Ev.ip (by omega) (Ev.ip (by rw [hx]; omega) (Ev.ip (by omega) (Ev.im hge (Ev.ip he2.2.1 (Ev.ip hlt (Ev.im h0 hb)))))))), fun hr => ⟨(hp hr).1, fun e hd => ?_⟩⟩
    rw [List.drop_eq_getElem_cons hj] at hd
    rcases List.mem_cons.1 hd with rfl | hd
    · rw [← hy]; exact ⟨he2.2.1, hlt, h0⟩
    · exact (hp hr).2 e hd
theorem ent_loop (h10 : ins.length ≤ 10) (hok : ∀ x ∈ ins, InodeOK x) : ∀ (d i : Nat), ins.length = i + d →
    ∃ r, Ev (fun k => qo.l0 k ins (ins.length : Int) (i : Int) ins data) r ∧ Ev (fun k => q24.l1 k (i : Int) ins data) r ∧ (r = 0 → ∀ x ∈ ins.drop i, ∀ e ∈ x.f4, EntOK ins e) := by
  intro d
  induction d with
  | zero =>
    intro i he
    exact ⟨0, Ev.step (fun k => qo.l0.eq_2 ..) (Ev.im (by omega) (Ev.now _)), Ev.step (fun k => q24.l1.eq_2 ..) (Ev.im (by omega) (Ev.now _)), fun _ x hx => by rw [List.drop_of_length_le (by omega)] at hx; cases hx⟩
  | succ d ih =>
    intro i he
    have hi : i < ins.length := by omega
    obtain ⟨r, ha, hb, hp⟩ := ih (i + 1) (by omega)
    obtain ⟨r', ha', hb', hp'⟩ := ent_inner ins data h10 i hi (hok _ (List.getElem_mem hi)) ha hb hp ins[i].f4.length 0 (by omega)
    refine ⟨r', Ev.step (fun k => qo.l0.eq_2 ..) (Ev.ip (by omega) (Ev.ip (by omega) (Ev.ip (by omega) ha'))), Ev.step (fun k => q24.l1.eq_2 ..) (Ev.ip (by omega) hb'), fun hr x hx => ?_⟩
    rw [List.drop_eq_getElem_cons hi] at hx
    rcases List.mem_cons.1 hx with rfl | hx
    · simpa using (hp' hr).2
    · exact (hp' hr).1 x hx
/-- what the code of the tree says -/
structure TreeOK : Prop extends RootOK ins data where
  small : ∀ b ∈ data, b.length ≤ 8
  once : (blocksL ins).Nodup
  ents : ∀ x ∈ ins, ∀ e ∈ x.f4, EntOK ins e
theorem root_both (hs : ∀ x ∈ ins, SzI x) : ∃ r, Ev (fun k => qk.f k ins data) r ∧ (r = 0 → RootOK ins data) ∧
    (∀ R, (r = 0 → Ev (fun k => q24.l0 k 0 ins data) R) → (r ≠ 0 → R = r) → Ev (fun k => q24.f k ins data) R) := by
  obtain ⟨t, ha, hb, hp⟩ := inodes_both ins hs
  unfold qk.f q24.f
  by_cases ht : t = 0
  case neg => exact ⟨t, Ev.bind ha (Ev.im ht (Ev.now _)), fun h => absurd h ht, fun R _ h2 => by rw [h2 ht]; exact Ev.bind hb (Ev.im ht (Ev.now _))⟩
  obtain ⟨h10, hok⟩ := hp ht
  have hj1 : Ev (fun k => q24.j0 k true ins data) 1 := Ev.step (fun k => q24.j0.eq_2 ..) (Ev.ip rfl (Ev.now _))
  by_cases h0 : (ins.length : Int) = 0
  · exact ⟨1, Ev.bind ha (Ev.ip ht (Ev.ip h0 (Ev.now _))), by omega, fun R _ h2 => by rw [h2 (by omega)]; exact Ev.bind hb (Ev.ip ht (Ev.ip h0 hj1))⟩
  by_cases hd : (rd_T86 ins 0).f0 = 2
  case neg => exact ⟨1, Ev.bind ha (Ev.ip ht (Ev.im h0 (Ev.ip (by omega) (Ev.im hd (Ev.now _))))), by omega, fun R _ h2 => by rw [h2 (by omega)]; exact Ev.bind hb (Ev.ip ht (Ev.im h0 (Ev.ip (by omega) (Ev.im hd hj1))))⟩
  by_cases h20 : (data.length : Int) = 20
  case neg =>
    have e : ((data.length : Int) != 20) = true := by simpa using h20
    rw [← e] at hj1
    exact ⟨1, Ev.bind ha (Ev.ip ht (Ev.im h0 (Ev.ip (by omega) (Ev.ip hd (Ev.im h20 (Ev.now _)))))), by omega, fun R _ h2 => by rw [h2 (by omega)]; exact Ev.bind hb (Ev.ip ht (Ev.im h0 (Ev.ip (by omega) (Ev.ip hd hj1))))⟩
  have e : ¬ ((data.length : Int) != 20) = true := by simpa using h20
  exact ⟨0, Ev.bind ha (Ev.ip ht (Ev.im h0 (Ev.ip (by omega) (Ev.ip hd (Ev.ip h20 (Ev.now _)))))), fun _ => ⟨h10, by omega, hok, hd, by omega⟩, fun R h1 _ => Ev.bind hb (Ev.ip ht (Ev.im h0 (Ev.ip (by omega) (Ev.ip hd (Ev.step (fun k => q24.j0.eq_2 ..) (Ev.im e (h1 rfl)))))))⟩
theorem tree_both (hs : ∀ x ∈ ins, SzI x) : ∃ r, Ev (fun k => qo.f k ins data) r ∧ Ev (fun k => q24.f k ins data) r ∧ (r = 0 → TreeOK ins data) := by
  obtain ⟨t, ha, hp, hb⟩ := root_both ins data hs
  unfold qo.f
  by_cases ht : t = 0
  case neg => exact ⟨t, Ev.bind ha (Ev.im ht (Ev.now _)), hb t (fun h => absurd h ht) (fun _ => rfl), fun h => absurd h ht⟩
  obtain ⟨h10, hpos, hok, hroot, h20⟩ := hp ht
  have hcd := contd_ev data (by omega)
  cases h8 : data.all (fun b => decide (b.length ≤ 8)) with
  | false =>
    rw [h8] at hcd
    exact ⟨2, Ev.bind ha (Ev.ip ht (Ev.bind hcd (Ev.ip rfl (Ev.now _)))), hb 2 (fun _ => l6e_l0_no ins data (by omega) data.length 0 (by omega) (by simpa using h8)) (fun h => absurd ht h), by omega⟩
  | true =>
    rw [h8] at hcd
    have hu := used_ev ins h10 hok
    obtain ⟨l, hu2⟩ := l5Used_ev ins h10 hok
    by_cases hn : (blocksL ins).Nodup
    · obtain ⟨r, ea, eb, ep⟩ := ent_loop ins data h10 hok ins.length 0 (by omega)
      refine ⟨r, Ev.bind ha (Ev.ip ht (Ev.bind hcd (Ev.im (by simp) (Ev.bind hu (Ev.ip (decide_eq_true hn) ea))))), hb r (fun _ => l6e_l0_ok ins data (by omega) hu2 (Ev.ip (decide_eq_true hn) eb) data.length 0 (by omega) (by simpa using h8)) (fun h => absurd ht h), fun hr => ⟨⟨h10, hpos, hok, hroot, h20⟩, fun b hb => ?_, hn, by simpa using ep hr⟩⟩
      simpa using List.all_eq_true.1 h8 b hb
    · have hn' : ¬ decide (blocksL ins).Nodup = true := fun h => hn (of_decide_eq_true h)
      exact ⟨7, Ev.bind ha (Ev.ip ht (Ev.bind hcd (Ev.im (by simp) (Ev.bind hu (Ev.im hn' (Ev.now _)))))), hb 7 (fun _ => l6e_l0_ok ins data (by omega) hu2 (Ev.im hn' (Ev.now _)) data.length 0 (by omega) (by simpa using h8)) (fun h => absurd ht h), by omega⟩
end
end Go.Proofs.YtafhjhdohclchaaGreatDoor.G
namespace Go.Proofs.YtafhjhdohclchaaGreatDoor.G
open Go.RowKit Go.Proofs.YtafhjhdohclchaaGreatDoorW.PrintWords Go.Proofs.YtafhjhdohclchaaGreatDoorW.PrintLast Go.Proofs.YtafhjhdohclchaaGreatDoorW.PrintMore
attribute [local go_sem] min2_int min_two
attribute [local go_sem high] str_leq
attribute [local go_sem] binOp_string_geq
def q12.f (l0 : List Int) (a1 : Int) : Option (Int) := if (wrap64 (a1 - (l0.length : Int))) < 0 then (some (-1)) else (some (wrap64 (a1 - (l0.length : Int))))
set_option maxHeartbeats 8000000 in
set_option maxRecDepth 100000 in
theorem q12.calls (A0 : Option Addr) (c0 : Nat) (l0 : List Int) (a1 : Int) (r : Int) (w : World) (hr0 : Kd.C (Kd.int .u8) w A0 l0.length l0) (hc0 : l0.length ≤ c0) (h : q12.f l0 a1 = some r) :
  Calls Tryz.prog 124 #[.slice A0 l0.length c0, .int .i64 a1] w fun e w' => e = .returned (.int .i64 r) ∧ Drawn0 w w' := by
 have HR0 := Am hr0
 have HC0 := Am hc0
 clear hr0 hc0
 have H : (if (wrap64 (a1 - (l0.length : Int))) < 0 then (some (-1)) else (some (wrap64 (a1 - (l0.length : Int))))) = some r := h
 clear h
 by_cases c3 : (wrap64 (a1 - (l0.length : Int))) < 0
 ·rw [if_pos c3] at H
  have c3b0 : decide ((wrap64 (a1 - (l0.length : Int))) < 0) = true := decide_eq_true c3
  clear c3
  obtain rfl := Option.some.inj H
  go_enter Tryz.func124, Tryz.ntmps124
  go_wp2
  go_ret
  exact ⟨by rfl, by repeat (exact Drawn0.refl _)⟩
 ·rw [if_neg c3] at H
  have c3b0 : decide ((wrap64 (a1 - (l0.length : Int))) < 0) = false := decide_eq_false c3
  clear c3
  obtain rfl := Option.some.inj H
  go_enter Tryz.func124, Tryz.ntmps124
  go_wp2
  go_ret
  exact ⟨by rfl, by repeat (exact Drawn0.refl _)⟩
def q13.l0 : Nat → List (List Int) → Int → Int → Option (Int)
 | 0, _, _, _ => none
 | k + 1, x0, x1, x5 => if x5 < (x0.length : Int) then (if 0 ≤ x5 then ((q12.f (rd_L1 x0 x5) x1).bind fun t626 => (if t626 < 0 then (some (-1)) else (q13.l0 k x0 t626 (wrap64 (x5 + 1))))) else (none)) else (some x1)
def q13.f (k : Nat) (l0 : List (List Int)) (a1 : Int) : Option (Int) := if (wrap64 (a1 - (l0.length : Int))) < 0 then (some (-1)) else (q13.l0 k l0 (wrap64 (a1 - (l0.length : Int))) 0)
theorem q13.mono_l : ∀ k, (∀ y0 y1 y2, LeO (q13.l0 k y0 y1 y2) (q13.l0 (k + 1) y0 y1 y2))
 | 0 => fun _ _ _ r h => by simp [q13.l0] at h
 | k + 1 => by
  have ih0 := q13.mono_l k
  ·intro y0 y1 y2
   unfold q13.l0
   repeat' first | (with_reducible exact ih0 _ _ _) | (with_reducible exact LeO.refl _) | (with_reducible refine LeO.ite ?_ ?_) | (with_reducible refine LeO.bind ?_ (fun _ => ?_))
theorem q13.mono : ∀ a0 a1 k, LeO (q13.f k a0 a1) (q13.f (k + 1) a0 a1) := by
 intro a0 a1 k
 have ih0 := q13.mono_l k
 unfold q13.f
 repeat' first | (with_reducible exact ih0 _ _ _) | (with_reducible exact LeO.refl _) | (with_reducible refine LeO.ite ?_ ?_)
set_option maxHeartbeats 8000000 in
set_option maxRecDepth 100000 in
theorem q13.calls (k : Nat) (A0 : Option Addr) (c0 : Nat) (l0 : List (List Int)) (a1 : Int) (r : Int) (w : World) (hr0 : Kd.C (Kd.slice 5 (Kd.int .u8)) w A0 l0.length l0) (hc0 : l0.length ≤ c0) (h : q13.f k l0 a1 = some r) :
  Calls Tryz.prog 56 #[.slice A0 l0.length c0, .int .i64 a1] w fun e w' => e = .returned (.int .i64 r) ∧ Drawn0 w w' := by
 have HR0 := Am hr0
 have HC0 := Am hc0
 clear hr0 hc0
 have H : (if (wrap64 (a1 - (l0.length : Int))) < 0 then (some (-1)) else (q13.l0 k l0 (wrap64 (a1 - (l0.length : Int))) 0)) = some r := h
 clear h
 by_cases c3 : (wrap64 (a1 - (l0.length : Int))) < 0
 ·rw [if_pos c3] at H
  have c3b0 : decide ((wrap64 (a1 - (l0.length : Int))) < 0) = true := decide_eq_true c3
  clear c3
  obtain rfl := Option.some.inj H
  go_enter Tryz.func56, Tryz.ntmps56
  go_wp2
  go_ret
  exact ⟨by rfl, by repeat (exact Drawn0.refl _)⟩
 ·rw [if_neg c3] at H
  have c3b0 : decide ((wrap64 (a1 - (l0.length : Int))) < 0) = false := decide_eq_false c3
  clear c3
  have H' := Am H
  clear H
  go_enter Tryz.func56, Tryz.ntmps56
  go_wp2
  go_loopg [1, 5] k (fun kq v1 v5 w' => ∃ (x1_1 : Int) (x5_1 : Int), v1 = .int .i64 x1_1 ∧ v5 = .int .i64 x5_1 ∧ Aside0 (q13.l0 kq l0 x1_1 x5_1 = some r) ∧ Aside0 (kq ≤ k) ∧ Drawn0 w w')
  case atStart => exact ⟨(wrap64 (a1 - (l0.length : Int))), (0), (by rfl), (by rfl), H', ⟨Nat.le_refl _⟩, by repeat (exact Drawn0.refl _)⟩
  case round =>
   clear H'
   try clear c3b0
   obtain ⟨x1_1, x5_1, rfl, rfl, HA, HK1, ⟨m1, rfl⟩⟩ := hrel
   cases gk with
   | zero => exact absurd HA.out (by simp [q13.l0])
   | succ k1 =>
    have H := HA.out
    clear HA
    simp only [q13.l0] at H
    by_cases c4 : x5_1 < (l0.length : Int)
    ·rw [if_pos c4] at H
     have c4b0 : decide (x5_1 < (l0.length : Int)) = true := decide_eq_true c4
     clear c4
     replace H := ino H
     obtain ⟨c5, H⟩ := H
     have c5b0 : decide (0 ≤ x5_1) = true := decide_eq_true c5
     clear c5
     replace H := zbs H
     obtain ⟨t626, A6, H⟩ := H
     by_cases c7 : t626 < 0
     ·rw [if_pos c7] at H
      have c7b0 : decide (t626 < 0) = true := decide_eq_true c7
      clear c7
      obtain rfl := Option.some.inj H
      have p625 : 0 ≤ (x5_1 : Int) := od (by assumption)
      have q625 : x5_1 < (l0.length : Int) := od (by assumption)
      obtain ⟨ad625, A625_0, c625_0, e625, hx625_0, hl625_0, hi625_0⟩ := at_L1 HR0.out x5_1 p625 q625
      cases e625
      have HR625_0 := Am hi625_0
      have HC625_0 := Am hl625_0
      clear hi625_0 hl625_0
      replace p625 := eq_true p625
      replace q625 := eq_true q625
      go_wp2_with (((with_reducible refine gate_callee (f := 124) rfl ?_); refine goesL_ (some 23) rfl rfl Tryz.func124 (by kernel_rfl) rfl #[.slice A625_0 (rd_L1 l0 x5_1).length c625_0, .int .i64 x1_1] rfl (by (try simp only [List.map_toArray, List.map_cons, List.map_nil]); rfl) ?_; (with_reducible refine (q12.calls _ _ (rd_L1 l0 x5_1) x1_1 t626 _ ?side1 ?side2 A6.out).mono ?_); (case side1 => repeat (exact HR625_0.out)); (case side2 => exact HC625_0.out); rintro e w' ⟨rfl, ⟨nd, rfl⟩⟩; refine ⟨_, rfl, ?_⟩))
      go_ret
      exact ⟨by rfl, by repeat (first | exact Drawn0.refl _ | apply Drawn0.step)⟩
     ·rw [if_neg c7] at H
      have c7b0 : decide (t626 < 0) = false := decide_eq_false c7
      clear c7
      have H' := Am H
      clear H
      have p625 : 0 ≤ (x5_1 : Int) := od (by assumption)
      have q625 : x5_1 < (l0.length : Int) := od (by assumption)
      obtain ⟨ad625, A625_0, c625_0, e625, hx625_0, hl625_0, hi625_0⟩ := at_L1 HR0.out x5_1 p625 q625
      cases e625
      have HR625_0 := Am hi625_0
      have HC625_0 := Am hl625_0
      clear hi625_0 hl625_0
      replace p625 := eq_true p625
      replace q625 := eq_true q625
      go_wp2_with (((with_reducible refine gate_callee (f := 124) rfl ?_); refine goesL_ (some 23) rfl rfl Tryz.func124 (by kernel_rfl) rfl #[.slice A625_0 (rd_L1 l0 x5_1).length c625_0, .int .i64 x1_1] rfl (by (try simp only [List.map_toArray, List.map_cons, List.map_nil]); rfl) ?_; (with_reducible refine (q12.calls _ _ (rd_L1 l0 x5_1) x1_1 t626 _ ?side1 ?side2 A6.out).mono ?_); (case side1 => repeat (exact HR625_0.out)); (case side2 => exact HC625_0.out); rintro e w' ⟨rfl, ⟨nd, rfl⟩⟩; refine ⟨_, rfl, ?_⟩))
      go_roundg k1
      case measure => have := HK1.out; omega
      case rel => exact ⟨(t626), (wrap64 (x5_1 + 1)), (by rfl), (by rfl), H', ⟨by have := HK1.out; omega⟩, by repeat (first | exact Drawn0.refl _ | apply Drawn0.step)⟩
    ·rw [if_neg c4] at H
     have c4b0 : decide (x5_1 < (l0.length : Int)) = false := decide_eq_false c4
     clear c4
     obtain rfl := Option.some.inj H
     go_wp2
     go_ret
     exact ⟨by rfl, by repeat (first | exact Drawn0.refl _ | apply Drawn0.step)⟩
def q14.f (a0_0 : ByteArray) (a0_1 : Int) (a1 : Int) : Option (Int) := if (wrap64 (a1 - (a0_0.size : Int))) < 0 then (some (-1)) else (some (wrap64 (a1 - (a0_0.size : Int))))
set_option maxHeartbeats 8000000 in
set_option maxRecDepth 100000 in
theorem q14.calls (a0_0 : ByteArray) (a0_1 : Int) (a1 : Int) (r : Int) (w : World) (h : q14.f a0_0 a0_1 a1 = some r) :
  Calls Tryz.prog 242 #[.agg #[.string a0_0, .int .i64 a0_1], .int .i64 a1] w fun e w' => e = .returned (.int .i64 r) ∧ Below w.heap.size w w' := by
 have hu267 := Tryz.underlying267
 have HB := Am (Below.refl w.heap.size w)
 have H : (if (wrap64 (a1 - (a0_0.size : Int))) < 0 then (some (-1)) else (some (wrap64 (a1 - (a0_0.size : Int))))) = some r := h
 clear h
 by_cases c3 : (wrap64 (a1 - (a0_0.size : Int))) < 0
 ·rw [if_pos c3] at H
  have c3b0 : decide ((wrap64 (a1 - (a0_0.size : Int))) < 0) = true := decide_eq_true c3
  clear c3
  obtain rfl := Option.some.inj H
  go_enter Tryz.func242, Tryz.ntmps242
  go_wp2_with (((with_reducible refine gate_dst (N := 2) rfl ?_); refine box_event ?hg (N := 2) ?hd (cs := #[.string a0_0, .int .i64 a0_1]) (t := 267) ?hr ?_; (case hd => rfl); (case hg => rfl); (case hr => (go_simp; done)); intro gb617 hg w4 hbox hb; have BK617 := Am hbox; have GW617 := Am ((nge hg HB.out)); have GE617 := Am ((nge hg HB.out)); replace HB := Am (below_step HB.out hb); clear hb hbox hg; obtain ⟨hcz5_0, hcz5_1, hfz5_0, hfz5_1⟩ := cb2 BK617.out))
  go_ret
  exact ⟨by rfl, HB.out⟩
 ·rw [if_neg c3] at H
  have c3b0 : decide ((wrap64 (a1 - (a0_0.size : Int))) < 0) = false := decide_eq_false c3
  clear c3
  obtain rfl := Option.some.inj H
  go_enter Tryz.func242, Tryz.ntmps242
  go_wp2_with (((with_reducible refine gate_dst (N := 2) rfl ?_); refine box_event ?hg (N := 2) ?hd (cs := #[.string a0_0, .int .i64 a0_1]) (t := 267) ?hr ?_; (case hd => rfl); (case hg => rfl); (case hr => (go_simp; done)); intro gb617 hg w6 hbox hb; have BK617 := Am hbox; have GW617 := Am ((nge hg HB.out)); have GE617 := Am ((nge hg HB.out)); replace HB := Am (below_step HB.out hb); clear hb hbox hg; obtain ⟨hcz7_0, hcz7_1, hfz7_0, hfz7_1⟩ := cb2 BK617.out))
  go_ret
  exact ⟨by rfl, HB.out⟩
def q15.l0 : Nat → List (S267) → Int → Int → Option (Int)
 | 0, _, _, _ => none
 | k + 1, x0, x1, x5 => if x5 < (x0.length : Int) then (if 0 ≤ x5 then ((q14.f ((rd_T267 x0 x5).f0) ((rd_T267 x0 x5).f1) x1).bind fun t619 => (if t619 < 0 then (some (-1)) else (q15.l0 k x0 t619 (wrap64 (x5 + 1))))) else (none)) else (some x1)
def q15.f (k : Nat) (l0 : List (S267)) (a1 : Int) : Option (Int) := if (wrap64 (a1 - (l0.length : Int))) < 0 then (some (-1)) else (q15.l0 k l0 (wrap64 (a1 - (l0.length : Int))) 0)
theorem q15.mono_l : ∀ k, (∀ y0 y1 y2, LeO (q15.l0 k y0 y1 y2) (q15.l0 (k + 1) y0 y1 y2))
 | 0 => fun _ _ _ r h => by simp [q15.l0] at h
 | k + 1 => by
  have ih0 := q15.mono_l k
  ·intro y0 y1 y2
   unfold q15.l0
   repeat' first | (with_reducible exact ih0 _ _ _) | (with_reducible exact LeO.refl _) | (with_reducible refine LeO.ite ?_ ?_) | (with_reducible refine LeO.bind ?_ (fun _ => ?_))
theorem q15.mono : ∀ a0 a1 k, LeO (q15.f k a0 a1) (q15.f (k + 1) a0 a1) := by
 intro a0 a1 k
 have ih0 := q15.mono_l k
 unfold q15.f
 repeat' first | (with_reducible exact ih0 _ _ _) | (with_reducible exact LeO.refl _) | (with_reducible refine LeO.ite ?_ ?_)
set_option maxHeartbeats 8000000 in
set_option maxRecDepth 100000 in
theorem q15.calls (k : Nat) (A0 : Option Addr) (c0 : Nat) (l0 : List (S267)) (a1 : Int) (r : Int) (w : World) (hr0 : Kd.C k267 w A0 l0.length l0) (hc0 : l0.length ≤ c0) (h : q15.f k l0 a1 = some r) :
  Calls Tryz.prog 193 #[.slice A0 l0.length c0, .int .i64 a1] w fun e w' => e = .returned (.int .i64 r) ∧ Below w.heap.size w w' := by
 have hu267 := Tryz.underlying267
 have HR0 := Am hr0
 have HC0 := Am hc0
 clear hr0 hc0
 have HB := Am (Below.refl w.heap.size w)
 have H : (if (wrap64 (a1 - (l0.length : Int))) < 0 then (some (-1)) else (q15.l0 k l0 (wrap64 (a1 - (l0.length : Int))) 0)) = some r := h
 clear h
 by_cases c3 : (wrap64 (a1 - (l0.length : Int))) < 0
 ·rw [if_pos c3] at H
  have c3b0 : decide ((wrap64 (a1 - (l0.length : Int))) < 0) = true := decide_eq_true c3
  clear c3
  obtain rfl := Option.some.inj H
  go_enter Tryz.func193, Tryz.ntmps193
  go_wp2
  go_ret
  exact ⟨by rfl, HB.out⟩
 ·rw [if_neg c3] at H
  have c3b0 : decide ((wrap64 (a1 - (l0.length : Int))) < 0) = false := decide_eq_false c3
  clear c3
  have H' := Am H
  clear H
  go_enter Tryz.func193, Tryz.ntmps193
  go_wp2
  go_loopg [1, 5] k (fun kq v1 v5 w' => ∃ (x1_1 : Int) (x5_1 : Int), v1 = .int .i64 x1_1 ∧ v5 = .int .i64 x5_1 ∧ Aside0 (q15.l0 kq l0 x1_1 x5_1 = some r) ∧ Aside0 (kq ≤ k) ∧ Aside0 (Below w.heap.size w w'))
  case atStart => exact ⟨(wrap64 (a1 - (l0.length : Int))), (0), (by rfl), (by rfl), H', ⟨Nat.le_refl _⟩, ⟨HB.out⟩⟩
  case round =>
   clear H'
   try clear c3b0
   obtain ⟨x1_1, x5_1, rfl, rfl, HA, HK1, HB⟩ := hrel
   cases gk with
   | zero => exact absurd HA.out (by simp [q15.l0])
   | succ k1 =>
    have H := HA.out
    clear HA
    simp only [q15.l0] at H
    by_cases c4 : x5_1 < (l0.length : Int)
    ·rw [if_pos c4] at H
     have c4b0 : decide (x5_1 < (l0.length : Int)) = true := decide_eq_true c4
     clear c4
     replace H := ino H
     obtain ⟨c5, H⟩ := H
     have c5b0 : decide (0 ≤ x5_1) = true := decide_eq_true c5
     clear c5
     replace H := zbs H
     obtain ⟨t619, A6, H⟩ := H
     by_cases c7 : t619 < 0
     ·rw [if_pos c7] at H
      have c7b0 : decide (t619 < 0) = true := decide_eq_true c7
      clear c7
      obtain rfl := Option.some.inj H
      have p618 : 0 ≤ (x5_1 : Int) := od (by assumption)
      have q618 : x5_1 < (l0.length : Int) := od (by assumption)
      obtain ⟨ad618, e618, hx618_0, hx618_1⟩ := at_T267 HR0.out x5_1 p618 q618
      cases e618
      replace hx618_0 := pcb HB.out hx618_0
      replace hx618_1 := pcb HB.out hx618_1
      replace p618 := eq_true p618
      replace q618 := eq_true q618
      go_wp2_with (((with_reducible refine gate_callee (f := 242) rfl ?_); refine goesL_ (some 23) rfl rfl Tryz.func242 (by kernel_rfl) rfl #[.agg #[.string ((rd_T267 l0 x5_1).f0), .int .i64 ((rd_T267 l0 x5_1).f1)], .int .i64 x1_1] rfl (by (try simp only [List.map_toArray, List.map_cons, List.map_nil]); rfl) ?_; (with_reducible refine (q14.calls ((rd_T267 l0 x5_1).f0) ((rd_T267 l0 x5_1).f1) x1_1 t619 _ A6.out).mono ?_); rintro e w8 ⟨rfl, hb⟩; refine ⟨_, rfl, ?_⟩; replace HB := Am (below_step HB.out hb); (try clear hb)))
      go_ret
      exact ⟨by rfl, HB.out⟩
     ·rw [if_neg c7] at H
      have c7b0 : decide (t619 < 0) = false := decide_eq_false c7
      clear c7
      have H' := Am H
      clear H
      have p618 : 0 ≤ (x5_1 : Int) := od (by assumption)
      have q618 : x5_1 < (l0.length : Int) := od (by assumption)
      obtain ⟨ad618, e618, hx618_0, hx618_1⟩ := at_T267 HR0.out x5_1 p618 q618
      cases e618
      replace hx618_0 := pcb HB.out hx618_0
      replace hx618_1 := pcb HB.out hx618_1
      replace p618 := eq_true p618
      replace q618 := eq_true q618
      go_wp2_with (((with_reducible refine gate_callee (f := 242) rfl ?_); refine goesL_ (some 23) rfl rfl Tryz.func242 (by kernel_rfl) rfl #[.agg #[.string ((rd_T267 l0 x5_1).f0), .int .i64 ((rd_T267 l0 x5_1).f1)], .int .i64 x1_1] rfl (by (try simp only [List.map_toArray, List.map_cons, List.map_nil]); rfl) ?_; (with_reducible refine (q14.calls ((rd_T267 l0 x5_1).f0) ((rd_T267 l0 x5_1).f1) x1_1 t619 _ A6.out).mono ?_); rintro e w9 ⟨rfl, hb⟩; refine ⟨_, rfl, ?_⟩; replace HB := Am (below_step HB.out hb); (try clear hb)))
      go_roundg k1
      case measure => have := HK1.out; omega
      case rel => exact ⟨(t619), (wrap64 (x5_1 + 1)), (by rfl), (by rfl), H', ⟨by have := HK1.out; omega⟩, ⟨HB.out⟩⟩
    ·rw [if_neg c4] at H
     have c4b0 : decide (x5_1 < (l0.length : Int)) = false := decide_eq_false c4
     clear c4
     obtain rfl := Option.some.inj H
     go_wp2
     go_ret
     exact ⟨by rfl, HB.out⟩
def q19.f (l0 : List Int) (a1 : Int) : Option (Int) := if (wrap64 (a1 - (l0.length : Int))) < 0 then (some (-1)) else (some (wrap64 (a1 - (l0.length : Int))))
set_option maxHeartbeats 8000000 in
set_option maxRecDepth 100000 in
theorem q19.calls (A0 : Option Addr) (c0 : Nat) (l0 : List Int) (a1 : Int) (r : Int) (w : World) (hr0 : Kd.C (Kd.int .i64) w A0 l0.length l0) (hc0 : l0.length ≤ c0) (h : q19.f l0 a1 = some r) :
  Calls Tryz.prog 192 #[.slice A0 l0.length c0, .int .i64 a1] w fun e w' => e = .returned (.int .i64 r) ∧ Drawn0 w w' := by
 have HR0 := Am hr0
 have HC0 := Am hc0
 clear hr0 hc0
 have H : (if (wrap64 (a1 - (l0.length : Int))) < 0 then (some (-1)) else (some (wrap64 (a1 - (l0.length : Int))))) = some r := h
 clear h
 by_cases c3 : (wrap64 (a1 - (l0.length : Int))) < 0
 ·rw [if_pos c3] at H
  have c3b0 : decide ((wrap64 (a1 - (l0.length : Int))) < 0) = true := decide_eq_true c3
  clear c3
  obtain rfl := Option.some.inj H
  go_enter Tryz.func192, Tryz.ntmps192
  go_wp2
  go_ret
  exact ⟨by rfl, by repeat (exact Drawn0.refl _)⟩
 ·rw [if_neg c3] at H
  have c3b0 : decide ((wrap64 (a1 - (l0.length : Int))) < 0) = false := decide_eq_false c3
  clear c3
  obtain rfl := Option.some.inj H
  go_enter Tryz.func192, Tryz.ntmps192
  go_wp2
  go_ret
  exact ⟨by rfl, by repeat (exact Drawn0.refl _)⟩
end Go.Proofs.YtafhjhdohclchaaGreatDoor.G
