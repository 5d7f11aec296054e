/- Contracts of functions, words and pure lemmas that a statement reaches (part 6); conditions: each theorem's own hypotheses. -/
import Derived.Deep.Slices
import Derived.ChangeArms
import Derived.DataReads
import Derived.KernelRfl
import Derived.Test.YtafhjhdohclchaaGreatDoorQa5
set_option linter.unusedVariables false
set_option linter.unusedSimpArgs false
namespace Go.Proofs.YtafhjhdohclchaaGreatDoor.G
open Go.RowKit Go.Proofs.YtafhjhdohclchaaGreatDoorW.PrintWords Go.Proofs.YtafhjhdohclchaaGreatDoorW.PrintLast Go.Proofs.YtafhjhdohclchaaGreatDoorW.PrintMore
attribute [local go_sem] min2_int min_two
attribute [local go_sem high] str_leq
attribute [local go_sem] binOp_string_geq
mutual
def q2b.l0 : Nat → Int → ByteArray → Int → List ByteArray → Int → List (S86) → List (List Int) → Option (List ByteArray)
 | 0, _, _, _, _, _, _, _ => none
 | k + 1, x1, x2, x3, x9, x10, x1000, x1001 => if x3 > 0 then (if 0 ≤ x1 then (if x1 < (x1000.length : Int) then (q2b.j1 k x1 x2 x3 x9 x10 (decide (x10 < (((rd_T86 x1000 x1).f4).length : Int))) x1000 x1001) else (none)) else (none)) else (q2b.j1 k x1 x2 x3 x9 x10 false x1000 x1001)
def q2b.j1 : Nat → Int → ByteArray → Int → List ByteArray → Int → Bool → List (S86) → List (List Int) → Option (List ByteArray)
 | 0, _, _, _, _, _, _, _, _ => none
 | k + 1, x1, x2, x3, x9, x10, x28, x1000, x1001 => if x28 = true then (if 0 ≤ x1 then (if x1 < (x1000.length : Int) then (if 0 ≤ x10 then (if x10 < (((rd_T86 x1000 x1).f4).length : Int) then (if x2.size + 1 ≤ 9223372036854775807 then (if (x2 ++ (⟨#[47]⟩ : ByteArray)).size + ((rd_T143 ((rd_T86 x1000 x1).f4) x10).f0).size ≤ 9223372036854775807 then (if x9.length < 8796093022208 then ((some (x9 ++ [(x2 ++ (⟨#[47]⟩ : ByteArray)) ++ ((rd_T143 ((rd_T86 x1000 x1).f4) x10).f0)] : List ByteArray)).bind fun y713 => (if 0 ≤ ((rd_T143 ((rd_T86 x1000 x1).f4) x10).f1) then (if ((rd_T143 ((rd_T86 x1000 x1).f4) x10).f1) < (x1000.length : Int) then (if ((rd_T86 x1000 ((rd_T143 ((rd_T86 x1000 x1).f4) x10).f1)).f0) = 2 then ((q2b.f k x1000 x1001 ((rd_T143 ((rd_T86 x1000 x1).f4) x10).f1) ((x2 ++ (⟨#[47]⟩ : ByteArray)) ++ ((rd_T143 ((rd_T86 x1000 x1).f4) x10).f0)) (wrap64 (x3 - 1))).bind fun t717 => (if y713.length + t717.length < 8796093022208 then (q2b.l0 k x1 x2 x3 (y713 ++ t717) (wrap64 (x10 + 1)) x1000 x1001) else (none))) else (q2b.l0 k x1 x2 x3 y713 (wrap64 (x10 + 1)) x1000 x1001)) else (none)) else (none))) else (none)) else (none)) else (none)) else (none)) else (none)) else (none)) else (none)) else (some x9)
def q2b.f : Nat → List (S86) → List (List Int) → Int → ByteArray → Int → Option (List ByteArray)
 | 0, _, _, _, _, _ => none
 | k + 1, s0_0, s0_1, a1, a2, a3 => q2b.l0 k a1 a2 a3 (([] : List ByteArray)) 0 s0_0 s0_1
end
theorem q2b.mono_l : ∀ k, (∀ y0 y1 y2 y3 y4, LeO (q2b.f k y0 y1 y2 y3 y4) (q2b.f (k + 1) y0 y1 y2 y3 y4)) ∧ (∀ y0 y1 y2 y3 y4 y5 y6, LeO (q2b.l0 k y0 y1 y2 y3 y4 y5 y6) (q2b.l0 (k + 1) y0 y1 y2 y3 y4 y5 y6)) ∧ (∀ y0 y1 y2 y3 y4 y5 y6 y7, LeO (q2b.j1 k y0 y1 y2 y3 y4 y5 y6 y7) (q2b.j1 (k + 1) y0 y1 y2 y3 y4 y5 y6 y7))
 | 0 => ⟨fun _ _ _ _ _ r h => by simp [q2b.f] at h, fun _ _ _ _ _ _ _ r h => by simp [q2b.l0] at h, fun _ _ _ _ _ _ _ _ r h => by simp [q2b.j1] at h⟩
 | k + 1 => by
  obtain ⟨ih0, ih1, ih2⟩ := q2b.mono_l k
  refine ⟨?_, ?_, ?_⟩
  ·intro y0 y1 y2 y3 y4
   unfold q2b.f
   repeat' (with_reducible exact ih1 _ _ _ _ _ _ _)
  ·intro y0 y1 y2 y3 y4 y5 y6
   unfold q2b.l0
   repeat' first | (with_reducible exact ih2 _ _ _ _ _ _ _ _) | (with_reducible exact LeO.refl _) | (with_reducible refine LeO.ite ?_ ?_)
  ·intro y0 y1 y2 y3 y4 y5 y6 y7
   unfold q2b.j1
   repeat' first | (with_reducible exact ih0 _ _ _ _ _) | (with_reducible exact ih1 _ _ _ _ _ _ _) | (with_reducible exact LeO.refl _) | (with_reducible refine LeO.ite ?_ ?_) | (with_reducible refine LeO.bind ?_ (fun _ => ?_))
theorem q2b.mono : ∀ a0 a1 a2 a3 a4 k, LeO (q2b.f k a0 a1 a2 a3 a4) (q2b.f (k + 1) a0 a1 a2 a3 a4) := by
 intro a0 a1 a2 a3 a4 k
 obtain ⟨ih0, ih1, ih2⟩ := q2b.mono_l k
 exact ih0 a0 a1 a2 a3 a4
set_option maxHeartbeats 8000000 in
set_option maxRecDepth 100000 in
theorem q2b.calls (k : Nat) : ∀ (g : Nat) (s0_0 : List (S86)) (s0_1 : List (List Int)) (a1 : Int) (a2 : ByteArray) (a3 : Int) (r : List ByteArray) (w0 w : World) (hI : IsS28 w0 w g s0_0 s0_1) (hB : Below w0.heap.size w0 w) (h : q2b.f k s0_0 s0_1 a1 a2 a3 = some r),
  Calls Tryz.prog 128 #[.pointer (some ⟨g, 0, none⟩), .int .i64 a1, .string a2, .int .i64 a3] w fun e w' => ∃ v0_ : Value, e = .returned (v0_) ∧ Kd.R Kd.string 9 w' w.heap.size (fun _ => True) v0_ r ∧ IsS28 w0 w' g s0_0 s0_1 ∧ Below w0.heap.size w0 w' ∧ KeepBut w w' g none := by
 induction k using Nat.strongRecOn with
 | _ k ih =>
 intro g s0_0 s0_1 a1 a2 a3 r w0 w hI hB h
 cases k with
 | zero => exact absurd h (by simp [q2b.f])
 | succ k =>
 simp only [q2b.f] at h
 have hu143 := Tryz.underlying143
 have HI0 := Am hI
 have HK := Am (KeepBut.refl w g none)
 have HL := Am hB.size
 clear hI
 have HW0 := Am hB.size
 have HB := Am hB
 clear hB
 have H : (q2b.l0 k a1 a2 a3 (([] : List ByteArray)) 0 s0_0 s0_1) = some r := h
 clear h
 obtain ⟨y706, hy706⟩ : ∃ y_ : List ByteArray, y_ = (([] : List ByteArray)) := ⟨_, rfl⟩
 replace H : (q2b.l0 k a1 a2 a3 y706 0 s0_0 s0_1) = some r := by (rw [hy706]; with_reducible exact H)
 have Ny706 := Am hy706
 clear hy706
 have H' := Am H
 clear H
 go_enter Tryz.func128, Tryz.ntmps128
 go_wp2_with (((with_reducible refine gate_dst (N := 13) rfl ?_); (try (refine gate_guard (by rfl) ?_; dsimp only)); refine Kd.R_lit Kd.string _ 9 ?hg (N := 13) ?hd (xs := ([] : List ByteArray)) (inner := []) (ok := fun _ => True) (okp := fun _ => True) ?hr ?hp (fun _ hk => hk) trivial (Below.refl _ _) (Nat.le_refl _) (by simp) ?_; (case hd => rfl); (case hg => rfl); (case hr => (go_simp; done)); (case hp => exact (Reps.none _ _)); intro v707 w5 ho6 hb hg_ hnew_; clear hg_ hnew_; (rw [← Ny706.out] at ho6); have HO708 := Am (Kd.R_lower ho6 (keep_size (w := w) (g := g) (row := none) HK.out)); replace HI0 := Am (IsS28.below HI0.out hb); replace HK := Am (KeepBut.trans HK.out (KeepBut.of_below hb g none) (.inl rfl)); replace HB := Am (below_step HB.out hb); clear hb ho6))
 repeat (go_quiet (fail))
 go_loopg [9, 10] k (fun kq v9 v10 w' => ∃ (x9_1 : List ByteArray) (x10_1 : Int), v10 = .int .i64 x10_1 ∧ Aside0 (q2b.l0 kq a1 a2 a3 x9_1 x10_1 s0_0 s0_1 = some r) ∧ Aside0 (kq ≤ k) ∧ Aside0 (Kd.R Kd.string 9 w' w.heap.size (fun _ => True) v9 x9_1) ∧ Aside0 (IsS28 w0 w' g s0_0 s0_1) ∧ Aside0 (KeepBut w w' g none) ∧ Aside0 (Below w0.heap.size w0 w'))
 case atStart => exact ⟨(y706), (0), (by rfl), H', ⟨Nat.le_refl _⟩, ⟨by exact HO708.out⟩, ⟨HI0.out⟩, ⟨HK.out⟩, ⟨HB.out⟩⟩
 case round =>
  clear H'
  obtain ⟨x9_1, x10_1, rfl, HA, HK1, HO_9, HI0, HK, HB⟩ := hrel
  cases gk with
  | zero => exact absurd HA.out (by simp [q2b.l0])
  | succ k1 =>
   have H := HA.out
   clear HA
   simp only [q2b.l0] at H
   have HC7 := Am H
   clear H
   go_upto_region 3 with (fail)
   repeat (go_quiet (fail); go_upto_region 3 with (fail))
   go_cut [28] (fun v28 wc => ∃ (kq : Nat) (x28_6 : Bool), v28 = .bool x28_6 ∧ Aside0 (q2b.j1 kq a1 a2 a3 x9_1 x10_1 x28_6 s0_0 s0_1 = some r) ∧ Aside0 (kq ≤ k1) ∧ Aside0 (Kd.R Kd.string 9 wc w.heap.size (fun _ => True) u9 x9_1) ∧ Aside0 (IsS28 w0 wc g s0_0 s0_1) ∧ Aside0 (KeepBut w wc g none) ∧ Aside0 (Below w0.heap.size w0 wc))
   case first =>
    have H := HC7.out
    clear HC7
    by_cases c8 : a3 > 0
    ·rw [if_pos c8] at H
     have c8b0 : decide (0 < a3) = true := decide_eq_true c8
     clear c8
     replace H := ino H
     obtain ⟨c9, H⟩ := H
     have c9b0 : decide (0 ≤ a1) = true := decide_eq_true c9
     clear c9
     replace H := ino H
     obtain ⟨c10, H⟩ := H
     have c10b0 : decide (a1 < (s0_0.length : Int)) = true := decide_eq_true c10
     clear c10
     have H' := Am H
     clear H
     obtain ⟨ASz11_0, cSz11_0, ASz11_1, cSz11_1, HGz11, hgz11, HSz11_0, HSz11_1⟩ := HI0.out
     have hcz11_0 := cellS28_0 HGz11
     have hcz11_1 := cellS28_1 HGz11
     clear HGz11 hgz11
     have p709 : 0 ≤ (a1 : Int) := od (by assumption)
     have q709 : a1 < (s0_0.length : Int) := od (by assumption)
     obtain ⟨ad709, A709_3, c709_3, A709_4, c709_4, e709, hx709_0, hx709_1, hx709_2, hx709_3, hx709_4, hl709_3, hi709_3, hl709_4, hi709_4⟩ := at_T86 HSz11_0.1 a1 p709 q709
     cases e709
     replace hx709_0 := pcb HB.out hx709_0
     replace hx709_1 := pcb HB.out hx709_1
     replace hx709_2 := pcb HB.out hx709_2
     replace hx709_3 := pcb HB.out hx709_3
     replace hx709_4 := pcb HB.out hx709_4
     have HR709_3 := Am hi709_3
     have HC709_3 := Am hl709_3
     clear hi709_3 hl709_3
     have HR709_4 := Am hi709_4
     have HC709_4 := Am hl709_4
     clear hi709_4 hl709_4
     replace p709 := eq_true p709
     replace q709 := eq_true q709
     go_wp2
     repeat (go_quiet (fail))
     go_meet
     case rel => exact ⟨_, (decide (x10_1 < (((rd_T86 s0_0 a1).f4).length : Int))), (by rfl), H', ⟨by have := HK1.out; omega⟩, ⟨by exact HO_9.out⟩, ⟨HI0.out⟩, ⟨HK.out⟩, ⟨HB.out⟩⟩
    ·rw [if_neg c8] at H
     have c8b0 : decide (0 < a3) = false := decide_eq_false c8
     clear c8
     have H' := Am H
     clear H
     go_wp2
     repeat (go_quiet (fail))
     go_meet
     case rel => exact ⟨_, (false), (by rfl), H', ⟨by have := HK1.out; omega⟩, ⟨by exact HO_9.out⟩, ⟨HI0.out⟩, ⟨HK.out⟩, ⟨HB.out⟩⟩
   case rest =>
    clear HC7
    obtain ⟨kq, x28_6, rfl, HA, HJ6, HO_9, HI0, HK, HB⟩ := hcut
    cases kq with
    | zero => exact absurd HA.out (by simp [q2b.j1])
    | succ kj6 =>
     have H := HA.out
     clear HA
     simp only [q2b.j1] at H
     by_cases c12 : x28_6 = true
     ·subst c12
      have H1 : (if 0 ≤ a1 then (if a1 < (s0_0.length : Int) then (if 0 ≤ x10_1 then (if x10_1 < (((rd_T86 s0_0 a1).f4).length : Int) then (if a2.size + 1 ≤ 9223372036854775807 then (if (a2 ++ (⟨#[47]⟩ : ByteArray)).size + ((rd_T143 ((rd_T86 s0_0 a1).f4) x10_1).f0).size ≤ 9223372036854775807 then (if x9_1.length < 8796093022208 then ((some (x9_1 ++ [(a2 ++ (⟨#[47]⟩ : ByteArray)) ++ ((rd_T143 ((rd_T86 s0_0 a1).f4) x10_1).f0)] : List ByteArray)).bind fun y713 => (if 0 ≤ ((rd_T143 ((rd_T86 s0_0 a1).f4) x10_1).f1) then (if ((rd_T143 ((rd_T86 s0_0 a1).f4) x10_1).f1) < (s0_0.length : Int) then (if ((rd_T86 s0_0 ((rd_T143 ((rd_T86 s0_0 a1).f4) x10_1).f1)).f0) = 2 then ((q2b.f kj6 s0_0 s0_1 ((rd_T143 ((rd_T86 s0_0 a1).f4) x10_1).f1) ((a2 ++ (⟨#[47]⟩ : ByteArray)) ++ ((rd_T143 ((rd_T86 s0_0 a1).f4) x10_1).f0)) (wrap64 (a3 - 1))).bind fun t717 => (if y713.length + t717.length < 8796093022208 then (q2b.l0 kj6 a1 a2 a3 (y713 ++ t717) (wrap64 (x10_1 + 1)) s0_0 s0_1) else (none))) else (q2b.l0 kj6 a1 a2 a3 y713 (wrap64 (x10_1 + 1)) s0_0 s0_1)) else (none)) else (none))) else (none)) else (none)) else (none)) else (none)) else (none)) else (none)) else (none)) = some r := by rw [if_pos rfl] at H; exact H
      clear H
      have H := H1
      clear H1
      replace H := ino H
      obtain ⟨c13, H⟩ := H
      have c13b0 : decide (0 ≤ a1) = true := decide_eq_true c13
      clear c13
      replace H := ino H
      obtain ⟨c14, H⟩ := H
      have c14b0 : decide (a1 < (s0_0.length : Int)) = true := decide_eq_true c14
      clear c14
      replace H := ino H
      obtain ⟨c15, H⟩ := H
      have c15b0 : decide (0 ≤ x10_1) = true := decide_eq_true c15
      clear c15
      replace H := ino H
      obtain ⟨c16, H⟩ := H
      have c16b0 : decide (x10_1 < (((rd_T86 s0_0 a1).f4).length : Int)) = true := decide_eq_true c16
      clear c16
      replace H := ino H
      obtain ⟨c17, H⟩ := H
      have c17b0 := eq_true c17
      have c17b1 : decide (a2.size + 1 ≤ 9223372036854775807) = true := decide_eq_true c17
      try have c17b2 : (9223372036854775807 < a2.size + 1) = False := eq_false (Nat.not_lt.2 c17)
      replace H := ino H
      obtain ⟨c18, H⟩ := H
      have c18b0 := eq_true c18
      have c18b1 : decide ((a2 ++ (⟨#[47]⟩ : ByteArray)).size + ((rd_T143 ((rd_T86 s0_0 a1).f4) x10_1).f0).size ≤ 9223372036854775807) = true := decide_eq_true c18
      try have c18b2 : (9223372036854775807 < (a2 ++ (⟨#[47]⟩ : ByteArray)).size + ((rd_T143 ((rd_T86 s0_0 a1).f4) x10_1).f0).size) = False := eq_false (Nat.not_lt.2 c18)
      replace H := ino H
      obtain ⟨c19, H⟩ := H
      have LMc19 := Am c19
      clear c19
      obtain ⟨y713, hy713⟩ : ∃ y_ : List ByteArray, y_ = (x9_1 ++ [(a2 ++ (⟨#[47]⟩ : ByteArray)) ++ ((rd_T143 ((rd_T86 s0_0 a1).f4) x10_1).f0)]) := ⟨_, rfl⟩
      replace H : (if 0 ≤ ((rd_T143 ((rd_T86 s0_0 a1).f4) x10_1).f1) then (if ((rd_T143 ((rd_T86 s0_0 a1).f4) x10_1).f1) < (s0_0.length : Int) then (if ((rd_T86 s0_0 ((rd_T143 ((rd_T86 s0_0 a1).f4) x10_1).f1)).f0) = 2 then ((q2b.f kj6 s0_0 s0_1 ((rd_T143 ((rd_T86 s0_0 a1).f4) x10_1).f1) ((a2 ++ (⟨#[47]⟩ : ByteArray)) ++ ((rd_T143 ((rd_T86 s0_0 a1).f4) x10_1).f0)) (wrap64 (a3 - 1))).bind fun t717 => (if y713.length + t717.length < 8796093022208 then (q2b.l0 kj6 a1 a2 a3 (y713 ++ t717) (wrap64 (x10_1 + 1)) s0_0 s0_1) else (none))) else (q2b.l0 kj6 a1 a2 a3 y713 (wrap64 (x10_1 + 1)) s0_0 s0_1)) else (none)) else (none)) = some r := by (have H2_ := (Option.bind_some _ _).symm.trans H; rw [hy713]; with_reducible exact H2_)
      have Ny713 := Am hy713
      clear hy713
      replace H := ino H
      obtain ⟨c20, H⟩ := H
      have c20b0 : decide (0 ≤ ((rd_T143 ((rd_T86 s0_0 a1).f4) x10_1).f1)) = true := decide_eq_true c20
      clear c20
      replace H := ino H
      obtain ⟨c21, H⟩ := H
      have c21b0 : decide (((rd_T143 ((rd_T86 s0_0 a1).f4) x10_1).f1) < (s0_0.length : Int)) = true := decide_eq_true c21
      clear c21
      by_cases c22 : ((rd_T86 s0_0 ((rd_T143 ((rd_T86 s0_0 a1).f4) x10_1).f1)).f0) = 2
      ·rw [if_pos c22] at H
       have c22b0 : (((rd_T86 s0_0 ((rd_T143 ((rd_T86 s0_0 a1).f4) x10_1).f1)).f0) == 2) = true := beq_iff_eq.mpr c22
       have c22b1 : (((rd_T86 s0_0 ((rd_T143 ((rd_T86 s0_0 a1).f4) x10_1).f1)).f0) != 2) = false := bne_eq_false_iff_eq.mpr c22
       clear c22
       replace H := zbs H
       obtain ⟨t717, A23, H⟩ := H
       replace H := ino H
       obtain ⟨c24, H⟩ := H
       have LMc24 := Am c24
       clear c24
       obtain ⟨y720, hy720⟩ : ∃ y_ : List ByteArray, y_ = (y713 ++ t717) := ⟨_, rfl⟩
       replace H : (q2b.l0 kj6 a1 a2 a3 y720 (wrap64 (x10_1 + 1)) s0_0 s0_1) = some r := by (rw [hy720]; with_reducible exact H)
       have Ny720 := Am hy720
       clear hy720
       have H' := Am H
       clear H
       obtain ⟨ASz25_0, cSz25_0, ASz25_1, cSz25_1, HGz25, hgz25, HSz25_0, HSz25_1⟩ := HI0.out
       have hcz25_0 := cellS28_0 HGz25
       have hcz25_1 := cellS28_1 HGz25
       clear HGz25 hgz25
       have p710 : 0 ≤ (a1 : Int) := od (by assumption)
       have q710 : a1 < (s0_0.length : Int) := od (by assumption)
       obtain ⟨ad710, A710_3, c710_3, A710_4, c710_4, e710, hx710_0, hx710_1, hx710_2, hx710_3, hx710_4, hl710_3, hi710_3, hl710_4, hi710_4⟩ := at_T86 HSz25_0.1 a1 p710 q710
       cases e710
       replace hx710_0 := pcb HB.out hx710_0
       replace hx710_1 := pcb HB.out hx710_1
       replace hx710_2 := pcb HB.out hx710_2
       replace hx710_3 := pcb HB.out hx710_3
       replace hx710_4 := pcb HB.out hx710_4
       have HR710_3 := Am hi710_3
       have HC710_3 := Am hl710_3
       clear hi710_3 hl710_3
       have HR710_4 := Am hi710_4
       have HC710_4 := Am hl710_4
       clear hi710_4 hl710_4
       replace p710 := eq_true p710
       replace q710 := eq_true q710
       have p711 : 0 ≤ (x10_1 : Int) := od (by assumption)
       have q711 : x10_1 < (((rd_T86 s0_0 a1).f4).length : Int) := od (by assumption)
       obtain ⟨ad711, e711, hx711_0, hx711_1⟩ := at_T143 HR710_4.out x10_1 p711 q711
       cases e711
       replace hx711_0 := pcb HB.out hx711_0
       replace hx711_1 := pcb HB.out hx711_1
       replace p711 := eq_true p711
       replace q711 := eq_true q711
       go_wp2_with (first | ((with_reducible refine gate_dst (N := 11) rfl ?_); (try (refine gate_guard (by rfl) ?_; dsimp only)); refine box_event ?hg (N := 11) ?hd (cs := #[.string (⟨#[]⟩ : ByteArray), .int .i64 0]) (t := 143) ?hr ?_; (case hd => rfl); (case hg => rfl); (case hr => (go_simp; done)); intro gb712 hg w26 hbox hb; replace HO_9 := Am (Kd.R_below HO_9.out hb); replace HB := Am (below_step HB.out hb); have BK712 := Am hbox; have GW712 := Am ((by rw [hg]; exact (keep_size (w := w) (g := g) (row := none) HK.out) : w.heap.size ≤ gb712)); have GE712 := Am ((Nat.le_trans HW0.out (by rw [hg]; exact (keep_size (w := w) (g := g) (row := none) HK.out) : w.heap.size ≤ gb712) : w0.heap.size ≤ gb712)); replace HK := Am (KeepBut.trans HK.out (KeepBut.of_below hb g none) (.inl rfl)); have NB0_712 := Am ((by rw [hg]; exact Nat.ne_of_lt (IsS28.lt (show IsS28 w0 _ g s0_0 s0_1 from HI0.out)) : g ≠ gb712)); have NB712_0 := Am ((by rw [hg]; exact Nat.ne_of_gt (IsS28.lt (show IsS28 w0 _ g s0_0 s0_1 from HI0.out)) : gb712 ≠ g)); replace HI0 := Am (IsS28.below HI0.out hb); clear hb hbox hg; have hnb27 := NB712_0.out; have hnc27 := NB0_712.out; obtain ⟨hcz28_0, hcz28_1, hfz28_0, hfz28_1⟩ := cb2 BK712.out) | ((with_reducible refine gate_builtin (b := .append) (xs := #[.tmp 47, .tmp 49]) rfl ?_); (try (refine gate_guard (by rfl) ?_; dsimp only)); at_builtin; refine Kd.R_append Kd.string w.heap.size rfl (.tmp 47) (.tmp 49) 24 9 (.string ⟨#[]⟩) 16 rfl Tryz.underlying24 info9 rfl (by decide) (by omega) u9 x9_1 ((a2 ++ (⟨#[47]⟩ : ByteArray)) ++ ((rd_T143 ((rd_T86 s0_0 a1).f4) x10_1).f0)) [.string ((a2 ++ (⟨#[47]⟩ : ByteArray)) ++ ((rd_T143 ((rd_T86 s0_0 a1).f4) x10_1).f0))] (fun _ => True) (fun _ => False) rfl (by (go_simp; done)) ?aP (fun _ hk => hk.elim) ?aF ?aO (Below.refl _ _) ?aS ?aL ?_; (case aP => exact rfl); (case aF => exact (fun _ _ => trivial)); (case aO => exact (by exact Kd.R_mono (Kd.R_far (p := ⟨gb712, 1, none⟩) (Kd.R_far (p := ⟨gb712, 0, none⟩) (Kd.R_types HO_9.out BK712.out (by decide)) (fun _ hk => hk.2) (.string ((rd_T143 ((rd_T86 s0_0 a1).f4) x10_1).f0))) (fun _ hk => hk.2) (.int .i64 ((rd_T143 ((rd_T86 s0_0 a1).f4) x10_1).f1))) (fun _ hk => trivial))); (case aS => exact (keep_size (w := w) (g := g) (row := none) (by repeat ((with_reducible first | exact HK.out | refine keep_far ?_ GW712.out _))))); (case aL => have := LMc19.out; omega); intro v714 w29 ho hb hg hat; rw [← Ny713.out] at ho; replace HI0 := Am (IsS28.grown (show IsS28 w0 _ g s0_0 s0_1 from by repeat ((with_reducible first | exact HI0.out | refine IsS28.far ?_ NB0_712.out _))) hg (IsS28.own_ne HI0.out HO_9.out (by decide))); replace BK712 := Am (blk_grown (g := gb712) (o := .cells #[.string ((rd_T143 ((rd_T86 s0_0 a1).f4) x10_1).f0), .int .i64 ((rd_T143 ((rd_T86 s0_0 a1).f4) x10_1).f1)] 143 (0, 0)) (by refine blk_put (cs := #[.string ((rd_T143 ((rd_T86 s0_0 a1).f4) x10_1).f0), .int .i64 0]) ?_ 1 _ rfl; refine blk_put (cs := #[.string (⟨#[]⟩ : ByteArray), .int .i64 0]) ?_ 0 _ rfl; exact BK712.out) hg (Kd.R_ne HO_9.out BK712.out (by decide))); replace HB := Am (below_weaken (by repeat ((with_reducible first | exact HB.out | refine below_set ?_ GE712.out))) HL.out hb); replace HK := Am (KeepBut.trans (by repeat ((with_reducible first | exact HK.out | refine keep_far ?_ GW712.out _))) (KeepBut.of_grown hg g) (Kd.R_base2 HO_9.out)); have HO715 := Am ho; clear HO_9; clear ho hb hg hat; obtain ⟨ASz30_0, cSz30_0, ASz30_1, cSz30_1, HGz30, hgz30, HSz30_0, HSz30_1⟩ := HI0.out; have hcz30_0 := cellS28_0 HGz30; have hcz30_1 := cellS28_1 HGz30; clear HGz30 hgz30; obtain ⟨hcz31_0, hcz31_1, hfz31_0, hfz31_1⟩ := cb2 BK712.out; have p716 : 0 ≤ (((rd_T143 ((rd_T86 s0_0 a1).f4) x10_1).f1) : Int) := od (by assumption); have q716 : ((rd_T143 ((rd_T86 s0_0 a1).f4) x10_1).f1) < (s0_0.length : Int) := od (by assumption); obtain ⟨ad716, A716_3, c716_3, A716_4, c716_4, e716, hx716_0, hx716_1, hx716_2, hx716_3, hx716_4, hl716_3, hi716_3, hl716_4, hi716_4⟩ := at_T86 HSz30_0.1 ((rd_T143 ((rd_T86 s0_0 a1).f4) x10_1).f1) p716 q716; cases e716; replace hx716_0 := pcb HB.out hx716_0; replace hx716_1 := pcb HB.out hx716_1; replace hx716_2 := pcb HB.out hx716_2; replace hx716_3 := pcb HB.out hx716_3; replace hx716_4 := pcb HB.out hx716_4; have HR716_3 := Am hi716_3; have HC716_3 := Am hl716_3; clear hi716_3 hl716_3; have HR716_4 := Am hi716_4; have HC716_4 := Am hl716_4; clear hi716_4 hl716_4; replace p716 := eq_true p716; replace q716 := eq_true q716))
       repeat (go_quiet (fail); try go_wp2_with (first | (go_at_call 128; (with_reducible refine (ih kj6 (by have := HK1.out; have := HJ6.out; omega) g s0_0 s0_1 ((rd_T143 ((rd_T86 s0_0 a1).f4) x10_1).f1) ((a2 ++ (⟨#[47]⟩ : ByteArray)) ++ ((rd_T143 ((rd_T86 s0_0 a1).f4) x10_1).f0)) (wrap64 (a3 - 1)) t717 w0 _ ?side1 ?side2 A23.out).mono ?_); (case side1 => repeat ((with_reducible first | exact HI0.out | apply IsS28.drewN))); (case side2 => repeat ((with_reducible first | exact HB.out | apply pw_below_drewN))); rintro e w32 ⟨v718, rfl, ho0, hi, hb, hk⟩; replace BK712 := Am (KeepBut.blk hk (g' := gb712) (o := .cells #[.string ((rd_T143 ((rd_T86 s0_0 a1).f4) x10_1).f0), .int .i64 ((rd_T143 ((rd_T86 s0_0 a1).f4) x10_1).f1)] 143 (0, 0)) (by (with_reducible repeat (refine blk_drewN ?_ _)); exact BK712.out) NB712_0.out (by simp)); have HO719 := Am (Kd.R_lower (Kd.R_new' ho0 (Kd.R_lt (by (with_reducible repeat (apply Kd.R_drewN)); exact HO715.out))) (keep_size (w := w) (g := g) (row := none) (by repeat ((with_reducible first | exact HK.out | apply keep_drewN))))); replace HO715 := Am (Kd.R_mono (Kd.R_told (Kd.R_oldK (IsS28.apart (show IsS28 w0 _ g s0_0 s0_1 from by repeat ((with_reducible first | exact HI0.out | apply IsS28.drewN))) (by (with_reducible repeat (apply Kd.R_drewN)); exact HO715.out) (by decide)) hk) (Kd.R_base ho0)) (fun _ h_ => h_.1)); replace HK := Am (KeepBut.trans (by repeat ((with_reducible first | exact HK.out | apply keep_drewN))) hk (.inl rfl)); replace HB := Am hb; replace HI0 := Am hi; (try clear hb); (try clear hk); (try clear hi); (try clear ho0); obtain ⟨Ao34, co34, eo34⟩ := Kd.R_slice HO719.out; subst eo34) | ((with_reducible refine gate_builtin (b := .append) (xs := #[.tmp 61, .tmp 68]) rfl ?_); (try (refine gate_guard (by rfl) ?_; dsimp only)); at_builtin; refine Kd.R_append_rows Kd.string w.heap.size rfl (.tmp 61) (.tmp 68) 24 9 (.string ⟨#[]⟩) 16 rfl Tryz.underlying24 info9 rfl (by decide) (by omega) v714 y713 t717 _ _ _ (fun k_ => some k_ ≠ (.slice Ao34 t717.length co34 : Value).ownBlock) (fun _ => False) rfl rfl ?aO ?aR (fun _ _ h => h) (fun _ h => h.elim) ?aF (Below.refl _ _) ?aS ?aL ?_; (case aR => repeat (exact (Kd.R_reads' HO719.out).2.2)); (case aF => exact (fun k_ hk => Kd.fresh' (Kd.R_lt HO719.out) k_ hk)); (case aO => exact (by exact Kd.R_mono HO715.out (fun _ hk => hk.2))); (case aS => exact (keep_size (w := w) (g := g) (row := none) HK.out)); (case aL => have := LMc24.out; omega); intro v721 w33 ho hb hg hat; rw [← Ny720.out] at ho; replace HI0 := Am (IsS28.grown (show IsS28 w0 _ g s0_0 s0_1 from HI0.out) hg (IsS28.own_ne HI0.out HO715.out (by decide))); replace BK712 := Am (blk_grown (g := gb712) (o := .cells #[.string ((rd_T143 ((rd_T86 s0_0 a1).f4) x10_1).f0), .int .i64 ((rd_T143 ((rd_T86 s0_0 a1).f4) x10_1).f1)] 143 (0, 0)) BK712.out hg (Kd.R_ne HO715.out BK712.out (by decide))); replace HO719 := Am (Kd.R_after (ok := (fun _ => True)) HO719.out hg hat); replace HB := Am (below_weaken HB.out HL.out hb); replace HK := Am (KeepBut.trans HK.out (KeepBut.of_grown hg g) (Kd.R_base2 HO715.out)); have HO722 := Am ho; clear HO715; clear ho hb hg hat)))
       go_roundg kj6
       case measure => have := HK1.out; have := HJ6.out; omega
       case rel => exact ⟨(y720), (wrap64 (x10_1 + 1)), (by rfl), H', ⟨by have := HK1.out; have := HJ6.out; omega⟩, ⟨by exact Kd.R_mono HO722.out (fun _ hk => trivial)⟩, ⟨HI0.out⟩, ⟨HK.out⟩, ⟨HB.out⟩⟩
      ·rw [if_neg c22] at H
       have c22b0 : (((rd_T86 s0_0 ((rd_T143 ((rd_T86 s0_0 a1).f4) x10_1).f1)).f0) == 2) = false := beq_eq_false_iff_ne.mpr c22
       have c22b1 : (((rd_T86 s0_0 ((rd_T143 ((rd_T86 s0_0 a1).f4) x10_1).f1)).f0) != 2) = true := bne_iff_ne.mpr c22
       have H' := Am H
       clear H
       obtain ⟨ASz35_0, cSz35_0, ASz35_1, cSz35_1, HGz35, hgz35, HSz35_0, HSz35_1⟩ := HI0.out
       have hcz35_0 := cellS28_0 HGz35
       have hcz35_1 := cellS28_1 HGz35
       clear HGz35 hgz35
       have p710 : 0 ≤ (a1 : Int) := od (by assumption)
       have q710 : a1 < (s0_0.length : Int) := od (by assumption)
       obtain ⟨ad710, A710_3, c710_3, A710_4, c710_4, e710, hx710_0, hx710_1, hx710_2, hx710_3, hx710_4, hl710_3, hi710_3, hl710_4, hi710_4⟩ := at_T86 HSz35_0.1 a1 p710 q710
       cases e710
       replace hx710_0 := pcb HB.out hx710_0
       replace hx710_1 := pcb HB.out hx710_1
       replace hx710_2 := pcb HB.out hx710_2
       replace hx710_3 := pcb HB.out hx710_3
       replace hx710_4 := pcb HB.out hx710_4
       have HR710_3 := Am hi710_3
       have HC710_3 := Am hl710_3
       clear hi710_3 hl710_3
       have HR710_4 := Am hi710_4
       have HC710_4 := Am hl710_4
       clear hi710_4 hl710_4
       replace p710 := eq_true p710
       replace q710 := eq_true q710
       have p711 : 0 ≤ (x10_1 : Int) := od (by assumption)
       have q711 : x10_1 < (((rd_T86 s0_0 a1).f4).length : Int) := od (by assumption)
       obtain ⟨ad711, e711, hx711_0, hx711_1⟩ := at_T143 HR710_4.out x10_1 p711 q711
       cases e711
       replace hx711_0 := pcb HB.out hx711_0
       replace hx711_1 := pcb HB.out hx711_1
       replace p711 := eq_true p711
       replace q711 := eq_true q711
       go_wp2_with (first | ((with_reducible refine gate_dst (N := 11) rfl ?_); (try (refine gate_guard (by rfl) ?_; dsimp only)); refine box_event ?hg (N := 11) ?hd (cs := #[.string (⟨#[]⟩ : ByteArray), .int .i64 0]) (t := 143) ?hr ?_; (case hd => rfl); (case hg => rfl); (case hr => (go_simp; done)); intro gb712 hg w36 hbox hb; replace HO_9 := Am (Kd.R_below HO_9.out hb); replace HB := Am (below_step HB.out hb); have BK712 := Am hbox; have GW712 := Am ((by rw [hg]; exact (keep_size (w := w) (g := g) (row := none) HK.out) : w.heap.size ≤ gb712)); have GE712 := Am ((Nat.le_trans HW0.out (by rw [hg]; exact (keep_size (w := w) (g := g) (row := none) HK.out) : w.heap.size ≤ gb712) : w0.heap.size ≤ gb712)); replace HK := Am (KeepBut.trans HK.out (KeepBut.of_below hb g none) (.inl rfl)); have NB0_712 := Am ((by rw [hg]; exact Nat.ne_of_lt (IsS28.lt (show IsS28 w0 _ g s0_0 s0_1 from HI0.out)) : g ≠ gb712)); have NB712_0 := Am ((by rw [hg]; exact Nat.ne_of_gt (IsS28.lt (show IsS28 w0 _ g s0_0 s0_1 from HI0.out)) : gb712 ≠ g)); replace HI0 := Am (IsS28.below HI0.out hb); clear hb hbox hg; have hnb37 := NB712_0.out; have hnc37 := NB0_712.out; obtain ⟨hcz38_0, hcz38_1, hfz38_0, hfz38_1⟩ := cb2 BK712.out) | ((with_reducible refine gate_builtin (b := .append) (xs := #[.tmp 47, .tmp 49]) rfl ?_); (try (refine gate_guard (by rfl) ?_; dsimp only)); at_builtin; refine Kd.R_append Kd.string w.heap.size rfl (.tmp 47) (.tmp 49) 24 9 (.string ⟨#[]⟩) 16 rfl Tryz.underlying24 info9 rfl (by decide) (by omega) u9 x9_1 ((a2 ++ (⟨#[47]⟩ : ByteArray)) ++ ((rd_T143 ((rd_T86 s0_0 a1).f4) x10_1).f0)) [.string ((a2 ++ (⟨#[47]⟩ : ByteArray)) ++ ((rd_T143 ((rd_T86 s0_0 a1).f4) x10_1).f0))] (fun _ => True) (fun _ => False) rfl (by (go_simp; done)) ?aP (fun _ hk => hk.elim) ?aF ?aO (Below.refl _ _) ?aS ?aL ?_; (case aP => exact rfl); (case aF => exact (fun _ _ => trivial)); (case aO => exact (by exact Kd.R_mono (Kd.R_far (p := ⟨gb712, 1, none⟩) (Kd.R_far (p := ⟨gb712, 0, none⟩) (Kd.R_types HO_9.out BK712.out (by decide)) (fun _ hk => hk.2) (.string ((rd_T143 ((rd_T86 s0_0 a1).f4) x10_1).f0))) (fun _ hk => hk.2) (.int .i64 ((rd_T143 ((rd_T86 s0_0 a1).f4) x10_1).f1))) (fun _ hk => trivial))); (case aS => exact (keep_size (w := w) (g := g) (row := none) (by repeat ((with_reducible first | exact HK.out | refine keep_far ?_ GW712.out _))))); (case aL => have := LMc19.out; omega); intro v714 w39 ho hb hg hat; rw [← Ny713.out] at ho; replace HI0 := Am (IsS28.grown (show IsS28 w0 _ g s0_0 s0_1 from by repeat ((with_reducible first | exact HI0.out | refine IsS28.far ?_ NB0_712.out _))) hg (IsS28.own_ne HI0.out HO_9.out (by decide))); replace BK712 := Am (blk_grown (g := gb712) (o := .cells #[.string ((rd_T143 ((rd_T86 s0_0 a1).f4) x10_1).f0), .int .i64 ((rd_T143 ((rd_T86 s0_0 a1).f4) x10_1).f1)] 143 (0, 0)) (by refine blk_put (cs := #[.string ((rd_T143 ((rd_T86 s0_0 a1).f4) x10_1).f0), .int .i64 0]) ?_ 1 _ rfl; refine blk_put (cs := #[.string (⟨#[]⟩ : ByteArray), .int .i64 0]) ?_ 0 _ rfl; exact BK712.out) hg (Kd.R_ne HO_9.out BK712.out (by decide))); replace HB := Am (below_weaken (by repeat ((with_reducible first | exact HB.out | refine below_set ?_ GE712.out))) HL.out hb); replace HK := Am (KeepBut.trans (by repeat ((with_reducible first | exact HK.out | refine keep_far ?_ GW712.out _))) (KeepBut.of_grown hg g) (Kd.R_base2 HO_9.out)); have HO715 := Am ho; clear HO_9; clear ho hb hg hat; obtain ⟨ASz40_0, cSz40_0, ASz40_1, cSz40_1, HGz40, hgz40, HSz40_0, HSz40_1⟩ := HI0.out; have hcz40_0 := cellS28_0 HGz40; have hcz40_1 := cellS28_1 HGz40; clear HGz40 hgz40; obtain ⟨hcz41_0, hcz41_1, hfz41_0, hfz41_1⟩ := cb2 BK712.out; have p716 : 0 ≤ (((rd_T143 ((rd_T86 s0_0 a1).f4) x10_1).f1) : Int) := od (by assumption); have q716 : ((rd_T143 ((rd_T86 s0_0 a1).f4) x10_1).f1) < (s0_0.length : Int) := od (by assumption); obtain ⟨ad716, A716_3, c716_3, A716_4, c716_4, e716, hx716_0, hx716_1, hx716_2, hx716_3, hx716_4, hl716_3, hi716_3, hl716_4, hi716_4⟩ := at_T86 HSz40_0.1 ((rd_T143 ((rd_T86 s0_0 a1).f4) x10_1).f1) p716 q716; cases e716; replace hx716_0 := pcb HB.out hx716_0; replace hx716_1 := pcb HB.out hx716_1; replace hx716_2 := pcb HB.out hx716_2; replace hx716_3 := pcb HB.out hx716_3; replace hx716_4 := pcb HB.out hx716_4; have HR716_3 := Am hi716_3; have HC716_3 := Am hl716_3; clear hi716_3 hl716_3; have HR716_4 := Am hi716_4; have HC716_4 := Am hl716_4; clear hi716_4 hl716_4; replace p716 := eq_true p716; replace q716 := eq_true q716))
       repeat (go_quiet (fail); try go_wp2_with (fail))
       go_roundg kj6
       case measure => have := HK1.out; have := HJ6.out; omega
       case rel => exact ⟨(y713), (wrap64 (x10_1 + 1)), (by rfl), H', ⟨by have := HK1.out; have := HJ6.out; omega⟩, ⟨by (with_reducible repeat (apply Kd.R_drewN)); exact HO715.out⟩, ⟨by repeat ((with_reducible first | exact HI0.out | apply IsS28.drewN))⟩, ⟨by repeat ((with_reducible first | exact HK.out | apply keep_drewN))⟩, ⟨by repeat ((with_reducible first | exact HB.out | apply pw_below_drewN))⟩⟩
     ·replace c12 := Bool.eq_false_iff.mpr c12
      subst c12
      have H1 : (some x9_1) = some r := by rw [if_neg (show ¬ (false = true) by decide)] at H; exact H
      clear H
      have H := H1
      clear H1
      obtain rfl := Option.some.inj H
      go_wp2
      repeat (go_quiet (fail))
      go_ret
      exact ⟨_, by rfl, by exact HO_9.out, HI0.out, HB.out, HK.out⟩
end Go.Proofs.YtafhjhdohclchaaGreatDoor.G
namespace Go.Proofs.YtafhjhdohclchaaGreatDoor.G
open Go.RowKit Go.Proofs.YtafhjhdohclchaaGreatDoorW.PrintWords Go.Proofs.YtafhjhdohclchaaGreatDoorW.PrintLast Go.Proofs.YtafhjhdohclchaaGreatDoorW.PrintMore
attribute [local go_sem] min2_int min_two
attribute [local go_sem high] str_leq
attribute [local go_sem] binOp_string_geq
def q2c.f (k : Nat) (s0_0 : List (S86)) (s0_1 : List (List Int)) : Option (List ByteArray) := (q2b.f k s0_0 s0_1 0 (⟨#[]⟩ : ByteArray) 6).bind fun t723 => (if (t723.length : Int) > 60 then (if 60 ≤ (t723.length : Int) then (some (t723.take (60 : Int).toNat)) else (none)) else (some t723))
theorem q2c.mono : ∀ a0 a1 k, LeO (q2c.f k a0 a1) (q2c.f (k + 1) a0 a1) := by
 intro a0 a1 k
 unfold q2c.f
 repeat' first | (with_reducible exact q2b.mono _ _ _ _ _ _) | (with_reducible exact LeO.refl _) | (with_reducible refine LeO.bind ?_ (fun _ => ?_))
set_option maxHeartbeats 8000000 in
set_option maxRecDepth 100000 in
theorem q2c.calls (k : Nat) (g : Nat) (s0_0 : List (S86)) (s0_1 : List (List Int)) (r : List ByteArray) (w0 w : World) (hI : IsS28 w0 w g s0_0 s0_1) (hB : Below w0.heap.size w0 w) (h : q2c.f k s0_0 s0_1 = some r) :
  Calls Tryz.prog 59 #[.pointer (some ⟨g, 0, none⟩)] w fun e w' => ∃ v0_ : Value, e = .returned (v0_) ∧ Kd.R Kd.string 9 w' w.heap.size (fun _ => True) v0_ r ∧ IsS28 w0 w' g s0_0 s0_1 ∧ Below w0.heap.size w0 w' ∧ KeepBut w w' g none := by
 have HI0 := Am hI
 have HK := Am (KeepBut.refl w g none)
 have HL := Am hB.size
 clear hI
 have HW0 := Am hB.size
 have HB := Am hB
 clear hB
 have H : ((q2b.f k s0_0 s0_1 0 (⟨#[]⟩ : ByteArray) 6).bind fun t723 => (if (t723.length : Int) > 60 then (if 60 ≤ (t723.length : Int) then (some (t723.take (60 : Int).toNat)) else (none)) else (some t723))) = some r := h
 clear h
 replace H := zbs H
 obtain ⟨t723, A2, H⟩ := H
 by_cases c3 : (t723.length : Int) > 60
 ·rw [if_pos c3] at H
  have c3b0 : decide (60 < (t723.length : Int)) = true := decide_eq_true c3
  have c3b1 : decide (60 < t723.length) = true := decide_eq_true (by omega)
  clear c3
  replace H := ino H
  obtain ⟨c4, H⟩ := H
  have c4b0 := eq_true c4
  have c4b1 : decide (60 ≤ (t723.length : Int)) = true := decide_eq_true c4
  clear c4
  obtain ⟨y726, hy726⟩ : ∃ y_ : List ByteArray, y_ = (t723.take (60 : Int).toNat) := ⟨_, rfl⟩
  replace H : (some y726) = some r := by (rw [hy726]; with_reducible exact H)
  have Ny726 := Am hy726
  clear hy726
  obtain rfl := Option.some.inj H
  go_enter Tryz.func59, Tryz.ntmps59
  go_wp2_with (((with_reducible refine gate_callee (f := 128) rfl ?_); refine goesL_ (some 5) rfl rfl Tryz.func128 (by kernel_rfl) rfl #[.pointer (some ⟨g, 0, none⟩), .int .i64 0, .string (⟨#[]⟩ : ByteArray), .int .i64 6] rfl (by (try simp only [List.map_toArray, List.map_cons, List.map_nil]); rfl) ?_; (with_reducible refine (q2b.calls k g s0_0 s0_1 0 (⟨#[]⟩ : ByteArray) 6 t723 w0 _ ?side1 ?side2 A2.out).mono ?_); (case side1 => repeat ((with_reducible exact HI0.out))); (case side2 => repeat ((with_reducible exact HB.out))); rintro e w5 ⟨v724, rfl, ho0, hi, hb, hk⟩; refine ⟨_, rfl, ?_⟩; have HO725 := Am (Kd.R_lower ho0 (keep_size (w := w) (g := g) (row := none) HK.out)); replace HK := Am (KeepBut.trans HK.out hk (.inl rfl)); replace HB := Am hb; replace HI0 := Am hi; (try clear hb); (try clear hk); (try clear hi); (try clear ho0); obtain ⟨Ao6, co6, eo6⟩ := Kd.R_slice HO725.out; subst eo6; have q7 : (60 : Int) ≤ ((t723.length : Int) : Int) := od (by assumption); obtain ⟨i07, hi07, _, hsz7, _⟩ := info_parts info9; have hcut7 := cut_to (P := Tryz.prog) 24 9 .i64 Tryz.underlying24 hi07 Ao6 t723.length co6 60 (by omega) q7 (Kd.R_reads' HO725.out).2.1; have hr7 := Kd.R_take (m := (60 : Int).toNat) HO725.out (by omega); have hy7 : y726.length = (60 : Int).toNat := (by rw [Ny726.out, List.length_take]; omega); rw [← Ny726.out] at hr7; rw [← hy7] at hr7 hcut7; clear hy7 hi07 hsz7 HO725; have HO728 := Am hr7; clear hr7; replace q7 := eq_true q7))
  go_ret
  exact ⟨_, by rfl, by exact HO728.out, HI0.out, HB.out, HK.out⟩
 ·rw [if_neg c3] at H
  have c3b0 : decide (60 < (t723.length : Int)) = false := decide_eq_false c3
  have c3b1 : decide (60 < t723.length) = false := decide_eq_false (by omega)
  clear c3
  obtain rfl := Option.some.inj H
  go_enter Tryz.func59, Tryz.ntmps59
  go_wp2_with (((with_reducible refine gate_callee (f := 128) rfl ?_); refine goesL_ (some 5) rfl rfl Tryz.func128 (by kernel_rfl) rfl #[.pointer (some ⟨g, 0, none⟩), .int .i64 0, .string (⟨#[]⟩ : ByteArray), .int .i64 6] rfl (by (try simp only [List.map_toArray, List.map_cons, List.map_nil]); rfl) ?_; (with_reducible refine (q2b.calls k g s0_0 s0_1 0 (⟨#[]⟩ : ByteArray) 6 t723 w0 _ ?side1 ?side2 A2.out).mono ?_); (case side1 => repeat ((with_reducible exact HI0.out))); (case side2 => repeat ((with_reducible exact HB.out))); rintro e w8 ⟨v724, rfl, ho0, hi, hb, hk⟩; refine ⟨_, rfl, ?_⟩; have HO725 := Am (Kd.R_lower ho0 (keep_size (w := w) (g := g) (row := none) HK.out)); replace HK := Am (KeepBut.trans HK.out hk (.inl rfl)); replace HB := Am hb; replace HI0 := Am hi; (try clear hb); (try clear hk); (try clear hi); (try clear ho0); obtain ⟨Ao9, co9, eo9⟩ := Kd.R_slice HO725.out; subst eo9))
  go_ret
  exact ⟨_, by rfl, by exact HO725.out, HI0.out, HB.out, HK.out⟩
end Go.Proofs.YtafhjhdohclchaaGreatDoor.G
namespace Go.Proofs.YtafhjhdohclchaaGreatDoor.G
open Go.RowKit Go.Proofs.YtafhjhdohclchaaGreatDoorW.PrintWords Go.Proofs.YtafhjhdohclchaaGreatDoorW.PrintLast Go.Proofs.YtafhjhdohclchaaGreatDoorW.PrintMore
attribute [local go_sem] min2_int min_two
theorem app_bs (a b : List UInt8) : bs a ++ bs b = bs (a ++ b) := by
  apply ByteArray.ext
  rw [ByteArray.data_append]
  simp [bs]
def nb (names : List ByteArray) : List (List UInt8) := names.map (·.data.toList)
/-- the path of names -/
def pathB (names : List ByteArray) : ByteArray := bs (pathL (nb names))
theorem bs_nb (names : List ByteArray) : (nb names).map bs = names := by
  simp only [nb, List.map_map]
  conv => rhs; rw [← List.map_id names]
  exact List.map_congr_left fun s _ => bs_toList s
theorem pathB_snoc (names : List ByteArray) (x : ByteArray) : pathB (names ++ [x]) = pathB names ++ (⟨#[47]⟩ : ByteArray) ++ x := by
  have e1 : (⟨#[47]⟩ : ByteArray) = bs [47] := rfl
  conv => rhs; rw [e1, ← bs_toList x]
  rw [pathB, pathB, app_bs, app_bs, nb, List.map_append, List.map_singleton, pathL_snoc]
  simp [nb]
theorem pathB_size (names : List ByteArray) (h : ∀ n ∈ names, n.size ≤ 4) : (pathB names).size ≤ names.length * 5 := by
  rw [pathB, bs_size]
  have := pathL_length (nb names) 4 (by
    intro n hn
    obtain ⟨s, hs, rfl⟩ := List.mem_map.1 hn
    rw [← size_len]; exact h s hs)
  simpa [nb] using this
theorem join_ok (x : ByteArray) (names : List ByteArray) (hl : names.length ≤ 6) (h : ∀ n ∈ x :: names, n.size ≤ 4) : qe.f (x :: names) = some (pathB (x :: names)) := by
  have hj := pathL_join x.data.toList (nb names)
  have hp := pathB_size (x :: names) h
  rw [pathB, bs_size] at hp
  have hp2 : (pathL (x.data.toList :: nb names)).length ≤ 35 := by
    have e : nb (x :: names) = x.data.toList :: nb names := rfl
    rw [e, List.length_cons] at hp
    omega
  rw [← hj, List.length_cons] at hp2
  have hc : (x :: names).length ≤ 140737488355328 ∧ (Lib.join ((x :: names).map (·.data.toList)) (⟨#[47]⟩ : ByteArray).data.toList).length ≤ 140737488355328 := by
    refine ⟨by simp; omega, ?_⟩
    have : (Lib.join ((x :: names).map (·.data.toList)) (⟨#[47]⟩ : ByteArray).data.toList).length = (Lib.join (x.data.toList :: nb names) [47]).length := rfl
    omega
  unfold qe.f q2g.f
  rw [if_pos hc, Option.bind_some]
  have e : (⟨(Lib.join ((x :: names).map (·.data.toList)) (⟨#[47]⟩ : ByteArray).data.toList).toArray⟩ : ByteArray) = bs (Lib.join (x.data.toList :: nb names) [47]) := rfl
  rw [e]
  have e1 : (⟨#[47]⟩ : ByteArray) = bs [47] := rfl
  rw [if_pos (by rw [bs_size]; omega), e1, app_bs, List.singleton_append, hj]
  rfl
/-- all that is below a directory, by its names -/
def belowN (ins : List S86) : Nat → Int → List ByteArray → List (List ByteArray)
  | 0, _, _ => []
  | n + 1, dir, names => (rd_T86 ins dir).f4.flatMap fun e => (names ++ [e.f0]) :: belowN ins n e.f1 (names ++ [e.f0])
def belowB : Nat → Nat
  | 0 => 0
  | n + 1 => 6 * (1 + belowB n)
theorem belowB_le : ∀ n, n ≤ 6 → belowB n ≤ 55986 := by decide
section
variable {ins : List S86} {data : List (List Int)}
theorem es_le (hok : ∀ x ∈ ins, InodeOK x) (dir : Int) (h0 : 0 ≤ dir) (h1 : dir < (ins.length : Int)) : (rd_T86 ins dir) ∈ ins := by
  have e : dir = ((dir.toNat : Nat) : Int) := by omega
  rw [e, rdT_eq ins dir.toNat (by omega)]
  exact List.getElem_mem _
theorem flat_le {α β : Type} (f : α → List β) (b : Nat) : ∀ (l : List α), (∀ x ∈ l, (f x).length ≤ b) → (l.flatMap f).length ≤ l.length * b
  | [], _ => by simp
  | x :: r, h => by
    have h1 := flat_le f b r (fun y hy => h y (by simp [hy]))
    have h2 := h x (by simp)
    rw [List.flatMap_cons, List.length_append, List.length_cons, Nat.add_mul]
    omega
theorem below_len (hok : ∀ x ∈ ins, InodeOK x) (he : ∀ x ∈ ins, ∀ e ∈ x.f4, EntOK ins e) : ∀ (n : Nat) (dir : Int) (names : List ByteArray), 0 ≤ dir → dir < (ins.length : Int) → (belowN ins n dir names).length ≤ belowB n
  | 0, _, _, _, _ => by simp [belowN]
  | n + 1, dir, names, h0, h1 => by
    have hm := es_le hok dir h0 h1
    have h6 := (hok _ hm).es.1
    have := flat_le (fun e : S143 => (names ++ [e.f0]) :: belowN ins n e.f1 (names ++ [e.f0])) (1 + belowB n) (rd_T86 ins dir).f4 (by
      intro e hem
      have hent := he _ hm e hem
      have := below_len hok he n e.f1 (names ++ [e.f0]) hent.1 hent.2.1
      rw [List.length_cons]; omega)
    rw [belowN, belowB]
    exact Nat.le_trans this (Nat.mul_le_mul_right _ h6)
theorem below_names (hok : ∀ x ∈ ins, InodeOK x) (he : ∀ x ∈ ins, ∀ e ∈ x.f4, EntOK ins e) : ∀ (n : Nat) (dir : Int) (names own : List ByteArray), 0 ≤ dir → dir < (ins.length : Int) → (∀ s ∈ names, NameOK s) → own ∈ belowN ins n dir names → own ≠ [] ∧ own.length ≤ names.length + n ∧ ∀ s ∈ own, NameOK s
  | 0, _, _, _, _, _, _, h => by simp [belowN] at h
  | n + 1, dir, names, own, h0, h1, hn, h => by
    have hm := es_le hok dir h0 h1
    rw [belowN] at h
    obtain ⟨e, hem, h⟩ := List.mem_flatMap.1 h
    have hent := he _ hm e hem
    have hok2 := ((hok _ hm).es.2 e hem).1
    have hn2 : ∀ s ∈ names ++ [e.f0], NameOK s := by
      intro s hs
      rcases List.mem_append.1 hs with h | h
      · exact hn s h
      · rw [List.mem_singleton.1 h]; exact hok2
    rcases List.mem_cons.1 h with rfl | h
    · exact ⟨by simp, by rw [List.length_append, List.length_singleton]; omega, hn2⟩
    · have := below_names hok he n e.f1 (names ++ [e.f0]) own hent.1 hent.2.1 hn2 h
      refine ⟨this.1, ?_, this.2.2⟩
      have := this.2.1
      rw [List.length_append, List.length_singleton] at this
      omega
/-- the program's paths -/
theorem pbL_eq (g : Int → List ByteArray → Option (List ByteArray)) (names : List ByteArray) (hl : names.length < 6) (hn : ∀ s ∈ names, s.size ≤ 4) (G : S143 → List (List ByteArray)) : ∀ (es : List S143), (∀ e ∈ es, e.f0.size ≤ 4) → (∀ e ∈ es, g e.f1 (names ++ [e.f0]) = some ((G e).map pathB)) →
    pbL g names es = some ((es.flatMap fun e => (names ++ [e.f0]) :: G e).map pathB)
  | [], _, _ => rfl
  | e :: r, hs, h => by
    have ih := pbL_eq g names hl hn G r (fun x hx => hs x (by simp [hx])) (fun x hx => h x (by simp [hx]))
    have hj : qe.f (names ++ [e.f0]) = some (pathB (names ++ [e.f0])) := by
      cases hc : names ++ [e.f0] with
      | nil => simp at hc
      | cons x t =>
        have hlen := congrArg List.length hc
        simp at hlen
        refine join_ok x t (by omega) ?_
        rw [← hc]
        intro n hmem
        rcases List.mem_append.1 hmem with h1 | h1
        · exact hn n h1
        · rw [List.mem_singleton.1 h1]; exact hs e (by simp)
    rw [pbL, if_pos (by omega), hj, Option.bind_some, h e (by simp), Option.bind_some, ih, Option.bind_some]
    simp
theorem pbF_eq (hok : ∀ x ∈ ins, InodeOK x) (he : ∀ x ∈ ins, ∀ e ∈ x.f4, EntOK ins e) : ∀ (k n : Nat) (dir : Int) (names : List ByteArray), n ≤ k → names.length + n = 6 → 0 ≤ dir → dir < (ins.length : Int) → (∀ s ∈ names, s.size ≤ 4) →
    pbF ins k dir names = some ((belowN ins n dir names).map pathB)
  | 0, n, dir, names, hk, hl, h0, h1, hn => by
    have : n = 0 := by omega
    subst this
    rw [pbF, if_pos (by omega)]; rfl
  | k + 1, 0, dir, names, hk, hl, h0, h1, hn => by rw [pbF, if_pos (by omega)]; rfl
  | k + 1, n + 1, dir, names, hk, hl, h0, h1, hn => by
    have hm := es_le hok dir h0 h1
    rw [pbF, if_neg (by omega), if_pos ⟨h0, h1⟩, belowN]
    refine pbL_eq (pbF ins k) names (by omega) hn (fun e => belowN ins n e.f1 (names ++ [e.f0])) _ (fun e hem => ((hok _ hm).es.2 e hem).1.2.1) ?_
    intro e hem
    have hent := he _ hm e hem
    refine pbF_eq hok he k n e.f1 (names ++ [e.f0]) (by omega) (by simp; omega) hent.1 hent.2.1 ?_
    intro s hs
    rcases List.mem_append.1 hs with h | h
    · exact hn s h
    · rw [List.mem_singleton.1 h]; exact ((hok _ hm).es.2 e hem).1.2.1
/-- all paths that are told, by their names -/
def ownsL (ins : List S86) : List (List ByteArray) := (belowN ins 6 0 []).take 60
theorem paths_impl (hok : ∀ x ∈ ins, InodeOK x) (he : ∀ x ∈ ins, ∀ e ∈ x.f4, EntOK ins e) (hpos : 0 < ins.length) : Ev (fun k => impl_Fs_paths.f k ins data) ((ownsL ins).map pathB) := by
  refine ⟨6, fun k hk => ?_⟩
  have h := pbF_eq hok he k 6 0 [] hk rfl (by omega) (by omega) (by simp)
  have hb := below_len hok he 6 0 [] (by omega) (by omega)
  have hb2 := belowB_le 6 (by omega)
  show impl_Fs_paths.f k ins data = _
  rw [impl_Fs_paths.f, h, Option.bind_some, if_pos (by rw [List.length_map]; omega), ownsL, List.map_take]
/-- the reference's paths -/
theorem l9_loop (hok : ∀ x ∈ ins, InodeOK x) (he : ∀ x ∈ ins, ∀ e ∈ x.f4, EntOK ins e) (n : Nat) (hn6 : n < 6) (dir : Int) (h0 : 0 ≤ dir) (h1 : dir < (ins.length : Int)) (names : List ByteArray) (hl : names.length + (n + 1) ≤ 6) (hns : ∀ s ∈ names, s.size ≤ 4)
    (ih : ∀ (dir : Int) (own : List ByteArray), 0 ≤ dir → dir < (ins.length : Int) → own.length + n ≤ 6 → (∀ s ∈ own, s.size ≤ 4) → Ev (fun k => q2b.f k ins data dir (pathB own) (n : Int)) ((belowN ins n dir own).map pathB)) :
    ∀ (d i : Nat) (acc : List ByteArray), (rd_T86 ins dir).f4.length = i + d → acc.length ≤ i * (1 + belowB n) →
    Ev (fun k => q2b.l0 k dir (pathB names) ((n + 1 : Nat) : Int) acc (i : Int) ins data) (acc ++ (((rd_T86 ins dir).f4.drop i).flatMap fun e => (names ++ [e.f0]) :: belowN ins n e.f1 (names ++ [e.f0])).map pathB) := by
  have hm := es_le hok dir h0 h1
  have h6 := (hok _ hm).es.1
  have hbB := belowB_le n (by omega)
  have hps := pathB_size names hns
  intro d
  induction d with
  | zero =>
    intro i acc hd ha
    rw [List.drop_of_length_le (by omega)]
    simp only [List.flatMap_nil, List.map_nil, List.append_nil]
    have e : ¬ decide ((i : Int) < ((rd_T86 ins dir).f4.length : Int)) = true := fun h => by have := of_decide_eq_true h; omega
    exact Ev.step (fun k => q2b.l0.eq_2 ..) (Ev.ip (by omega) (Ev.ip h0 (Ev.ip h1 (Ev.step (fun k => q2b.j1.eq_2 ..) (Ev.im e (Ev.now _))))))
  | succ d ihd =>
    intro i acc hd ha
    have hi : i < (rd_T86 ins dir).f4.length := by omega
    have e : decide ((i : Int) < ((rd_T86 ins dir).f4.length : Int)) = true := decide_eq_true (by omega)
    have hx := rdE_eq (rd_T86 ins dir).f4 i hi
    have hmem : rd_T143 (rd_T86 ins dir).f4 (i : Int) ∈ (rd_T86 ins dir).f4 := by rw [hx]; exact List.getElem_mem hi
    rw [List.drop_eq_getElem_cons hi, ← hx]
    generalize hE : rd_T143 (rd_T86 ins dir).f4 (i : Int) = E at hmem
    have hent := he _ hm E hmem
    have hok1 := ((hok _ hm).es.2 E hmem).1
    have hpath : pathB names ++ (⟨#[47]⟩ : ByteArray) ++ E.f0 = pathB (names ++ [E.f0]) := (pathB_snoc names E.f0).symm
    have hsz : (pathB names ++ (⟨#[47]⟩ : ByteArray)).size = (pathB names).size + 1 := ByteArray.size_append
    have hw : wrap64 (((n + 1 : Nat) : Int) - 1) = (n : Int) := by rw [w64_id _ (by omega) (by omega)]; omega
    have hns2 : ∀ s ∈ names ++ [E.f0], s.size ≤ 4 := by
      intro s hs
      rcases List.mem_append.1 hs with h | h
      · exact hns s h
      · rw [List.mem_singleton.1 h]; exact hok1.2.1
    have hbl := below_len hok he n E.f1 (names ++ [E.f0]) hent.1 hent.2.1
    have hal : acc.length ≤ 1000000 := Nat.le_trans ha (Nat.le_trans (Nat.mul_le_mul (show i ≤ 6 by omega) (show 1 + belowB n ≤ 55987 by omega)) (by omega))
    refine Ev.step (fun k => q2b.l0.eq_2 ..) (Ev.ip (by omega) (Ev.ip h0 (Ev.ip h1 (Ev.step (fun k => q2b.j1.eq_2 ..) (Ev.ip e (Ev.ip h0 (Ev.ip h1 (Ev.ip (by omega) (Ev.ip (by omega) ?_)))))))))
    simp only [hE]
    have hk := hok1.2.1
    refine Ev.ip (by omega) (Ev.ip (by rw [hsz]; omega) (Ev.ip (by omega) (Ev.bind (Ev.val fun _ => rfl) (Ev.ip hent.1 (Ev.ip hent.2.1 ?_)))))
    rw [hpath]
    have hnx := ihd (i + 1) (acc ++ [pathB (names ++ [E.f0])] ++ (belowN ins n E.f1 (names ++ [E.f0])).map pathB) (by omega) (by
      rw [List.length_append, List.length_append, List.length_singleton, List.length_map, Nat.add_mul]; omega)
    rw [← w1 i (by omega)] at hnx
    have eres : acc ++ (((E :: (rd_T86 ins dir).f4.drop (i + 1)).flatMap fun e => (names ++ [e.f0]) :: belowN ins n e.f1 (names ++ [e.f0])).map pathB) = acc ++ [pathB (names ++ [E.f0])] ++ (belowN ins n E.f1 (names ++ [E.f0])).map pathB ++ (((rd_T86 ins dir).f4.drop (i + 1)).flatMap fun e => (names ++ [e.f0]) :: belowN ins n e.f1 (names ++ [e.f0])).map pathB := by simp
    rw [eres]
    by_cases h2 : (rd_T86 ins E.f1).f0 = 2
    · refine Ev.ip h2 ?_
      have := ih E.f1 (names ++ [E.f0]) hent.1 hent.2.1 (by simp; omega) hns2
      rw [← hw] at this
      exact Ev.bind this (Ev.ip (by simp; omega) hnx)
    · refine Ev.im h2 ?_
      have hnil : (rd_T86 ins E.f1).f4 = [] := by
        rcases hok _ (es_le hok E.f1 hent.1 hent.2.1) with ⟨_, _, h⟩ | ⟨h, _⟩ | ⟨_, _, _, _, h⟩
        · exact h
        · exact absurd h h2
        · exact h
      have hb0 : belowN ins n E.f1 (names ++ [E.f0]) = [] := by cases n <;> simp [belowN, hnil]
      rw [hb0] at hnx ⊢
      simpa using hnx
theorem l9_ev (hok : ∀ x ∈ ins, InodeOK x) (he : ∀ x ∈ ins, ∀ e ∈ x.f4, EntOK ins e) : ∀ (n : Nat), n ≤ 6 → ∀ (dir : Int) (own : List ByteArray), 0 ≤ dir → dir < (ins.length : Int) → own.length + n ≤ 6 → (∀ s ∈ own, s.size ≤ 4) → Ev (fun k => q2b.f k ins data dir (pathB own) (n : Int)) ((belowN ins n dir own).map pathB) := by
  intro n
  induction n with
  | zero =>
    intro _ dir own h0 h1 hl hs
    exact Ev.step (fun k => q2b.f.eq_2 ..) (Ev.step (fun k => q2b.l0.eq_2 ..) (Ev.im (by omega) (Ev.step (fun k => q2b.j1.eq_2 ..) (Ev.im (by simp) (Ev.now _)))))
  | succ n ih =>
    intro hn6 dir own h0 h1 hl hs
    have := l9_loop (data := data) hok he n (by omega) dir h0 h1 own hl hs (ih (by omega)) (rd_T86 ins dir).f4.length 0 [] (by omega) (by simp)
    rw [belowN]
    refine Ev.step (fun k => q2b.f.eq_2 ..) ?_
    simpa using this
end
end Go.Proofs.YtafhjhdohclchaaGreatDoor.G
namespace Go.Proofs.YtafhjhdohclchaaGreatDoor.G
open Go.RowKit Go.Proofs.YtafhjhdohclchaaGreatDoorW.PrintWords Go.Proofs.YtafhjhdohclchaaGreatDoorW.PrintLast Go.Proofs.YtafhjhdohclchaaGreatDoorW.PrintMore
attribute [local go_sem] min2_int min_two
attribute [local go_sem high] str_leq
attribute [local go_sem] binOp_string_geq
def q0.l0 : Nat → ByteArray → List (S143) → Int → Int → Option (Int)
 | 0, _, _, _, _ => none
 | k + 1, x2, x16, x17, x18 => if x18 < x17 then (if 0 ≤ x18 then (if x18 < (x16.length : Int) then (if ((rd_T143 x16 x18).f0).toList = x2.toList then (some ((rd_T143 x16 x18).f1)) else (q0.l0 k x2 x16 x17 (wrap64 (x18 + 1)))) else (none)) else (none)) else (some (-1))
def q0.f (k : Nat) (s0_0 : List (S86)) (s0_1 : List (List Int)) (a1 : Int) (a2 : ByteArray) : Option (Int) := if 0 ≤ a1 then (if a1 < (s0_0.length : Int) then (q0.l0 k a2 ((rd_T86 s0_0 a1).f4) (((rd_T86 s0_0 a1).f4).length : Int) 0) else (none)) else (none)
theorem q0.mono_l : ∀ k, (∀ y0 y1 y2 y3, LeO (q0.l0 k y0 y1 y2 y3) (q0.l0 (k + 1) y0 y1 y2 y3))
 | 0 => fun _ _ _ _ r h => by simp [q0.l0] at h
 | k + 1 => by
  have ih0 := q0.mono_l k
  ·intro y0 y1 y2 y3
   unfold q0.l0
   repeat' first | (with_reducible exact ih0 _ _ _ _) | (with_reducible exact LeO.refl _) | (with_reducible refine LeO.ite ?_ ?_)
theorem q0.mono : ∀ a0 a1 a2 a3 k, LeO (q0.f k a0 a1 a2 a3) (q0.f (k + 1) a0 a1 a2 a3) := by
 intro a0 a1 a2 a3 k
 have ih0 := q0.mono_l k
 unfold q0.f
 repeat' first | (with_reducible exact ih0 _ _ _ _) | (with_reducible exact LeO.refl _) | (with_reducible refine LeO.ite ?_ ?_)
set_option maxHeartbeats 8000000 in
set_option maxRecDepth 100000 in
theorem q0.calls (k : Nat) (g : Nat) (s0_0 : List (S86)) (s0_1 : List (List Int)) (a1 : Int) (a2 : ByteArray) (r : Int) (w0 w : World) (hI : IsS28 w0 w g s0_0 s0_1) (hB : Below w0.heap.size w0 w) (h : q0.f k s0_0 s0_1 a1 a2 = some r) :
  Calls Tryz.prog 179 #[.pointer (some ⟨g, 0, none⟩), .int .i64 a1, .string a2] w fun e w' => e = .returned (.int .i64 r) ∧ IsS28 w0 w' g s0_0 s0_1 ∧ Below w0.heap.size w0 w' ∧ KeepBut w w' g none := by
 have hu143 := Tryz.underlying143
 have HI0 := Am hI
 have HK := Am (KeepBut.refl w g none)
 have HL := Am hB.size
 clear hI
 have HW0 := Am hB.size
 have HB := Am hB
 clear hB
 have H : (if 0 ≤ a1 then (if a1 < (s0_0.length : Int) then (q0.l0 k a2 ((rd_T86 s0_0 a1).f4) (((rd_T86 s0_0 a1).f4).length : Int) 0) else (none)) else (none)) = some r := h
 clear h
 replace H := ino H
 obtain ⟨c4, H⟩ := H
 have c4b0 : decide (0 ≤ a1) = true := decide_eq_true c4
 clear c4
 replace H := ino H
 obtain ⟨c5, H⟩ := H
 have c5b0 : decide (a1 < (s0_0.length : Int)) = true := decide_eq_true c5
 clear c5
 have H' := Am H
 clear H
 obtain ⟨ASz6_0, cSz6_0, ASz6_1, cSz6_1, HGz6, hgz6, HSz6_0, HSz6_1⟩ := HI0.out
 have hcz6_0 := cellS28_0 HGz6
 have hcz6_1 := cellS28_1 HGz6
 clear HGz6 hgz6
 have p396 : 0 ≤ (a1 : Int) := od (by assumption)
 have q396 : a1 < (s0_0.length : Int) := od (by assumption)
 obtain ⟨ad396, A396_3, c396_3, A396_4, c396_4, e396, hx396_0, hx396_1, hx396_2, hx396_3, hx396_4, hl396_3, hi396_3, hl396_4, hi396_4⟩ := at_T86 HSz6_0.1 a1 p396 q396
 cases e396
 replace hx396_0 := pcb HB.out hx396_0
 replace hx396_1 := pcb HB.out hx396_1
 replace hx396_2 := pcb HB.out hx396_2
 replace hx396_3 := pcb HB.out hx396_3
 replace hx396_4 := pcb HB.out hx396_4
 have HR396_3 := Am hi396_3
 have HC396_3 := Am hl396_3
 clear hi396_3 hl396_3
 have HR396_4 := Am hi396_4
 have HC396_4 := Am hl396_4
 clear hi396_4 hl396_4
 replace p396 := eq_true p396
 replace q396 := eq_true q396
 go_enter Tryz.func179, Tryz.ntmps179
 go_wp2
 go_loopg [18] k (fun kq v18 w' => ∃ (x18_1 : Int), v18 = .int .i64 x18_1 ∧ Aside0 (q0.l0 kq a2 ((rd_T86 s0_0 a1).f4) (((rd_T86 s0_0 a1).f4).length : Int) x18_1 = some r) ∧ Aside0 (kq ≤ k) ∧ Aside0 (IsS28 w0 w' g s0_0 s0_1) ∧ Aside0 (KeepBut w w' g none) ∧ Aside0 (Below w0.heap.size w0 w'))
 case atStart => exact ⟨(0), (by rfl), H', ⟨Nat.le_refl _⟩, ⟨HI0.out⟩, ⟨HK.out⟩, ⟨HB.out⟩⟩
 case round =>
  clear H'
  try clear c4b0
  try clear c5b0
  try clear hcz6_0
  try clear hcz6_1
  try clear hx396_0
  try clear hx396_1
  try clear hx396_2
  try clear hx396_3
  try clear hx396_4
  try clear p396
  try clear q396
  obtain ⟨x18_1, rfl, HA, HK1, HI0, HK, HB⟩ := hrel
  cases gk with
  | zero => exact absurd HA.out (by simp [q0.l0])
  | succ k1 =>
   have H := HA.out
   clear HA
   simp only [q0.l0] at H
   by_cases c7 : x18_1 < (((rd_T86 s0_0 a1).f4).length : Int)
   ·rw [if_pos c7] at H
    have c7b0 : decide (x18_1 < (((rd_T86 s0_0 a1).f4).length : Int)) = true := decide_eq_true c7
    clear c7
    replace H := ino H
    obtain ⟨c8, H⟩ := H
    have c8b0 : decide (0 ≤ x18_1) = true := decide_eq_true c8
    clear c8
    replace H := ino H
    obtain ⟨c9, H⟩ := H
    have c9b0 : decide (x18_1 < (((rd_T86 s0_0 a1).f4).length : Int)) = true := decide_eq_true c9
    clear c9
    by_cases c10 : ((rd_T143 ((rd_T86 s0_0 a1).f4) x18_1).f0).toList = a2.toList
    ·rw [if_pos c10] at H
     have c10b0 : (((rd_T143 ((rd_T86 s0_0 a1).f4) x18_1).f0).toList == a2.toList) = true := beq_iff_eq.mpr c10
     have c10b1 : (((rd_T143 ((rd_T86 s0_0 a1).f4) x18_1).f0).toList != a2.toList) = false := bne_eq_false_iff_eq.mpr c10
     clear c10
     obtain rfl := Option.some.inj H
     have p397 : 0 ≤ (x18_1 : Int) := od (by assumption)
     have q397 : x18_1 < (((rd_T86 s0_0 a1).f4).length : Int) := od (by assumption)
     obtain ⟨ad397, e397, hx397_0, hx397_1⟩ := at_T143 HR396_4.out x18_1 p397 q397
     cases e397
     replace hx397_0 := pcb HB.out hx397_0
     replace hx397_1 := pcb HB.out hx397_1
     replace p397 := eq_true p397
     replace q397 := eq_true q397
     go_wp2_with (((with_reducible refine gate_dst (N := 8) rfl ?_); refine box_event ?hg (N := 8) ?hd (cs := #[.string (⟨#[]⟩ : ByteArray), .int .i64 0]) (t := 143) ?hr ?_; (case hd => rfl); (case hg => rfl); (case hr => (go_simp; done)); intro gb398 hg w11 hbox hb; replace HB := Am (below_step HB.out hb); have BK398 := Am hbox; have GW398 := Am ((by rw [hg]; exact (keep_size (w := w) (g := g) (row := none) HK.out) : w.heap.size ≤ gb398)); have GE398 := Am ((Nat.le_trans HW0.out (by rw [hg]; exact (keep_size (w := w) (g := g) (row := none) HK.out) : w.heap.size ≤ gb398) : w0.heap.size ≤ gb398)); replace HK := Am (KeepBut.trans HK.out (KeepBut.of_below hb g none) (.inl rfl)); have NB0_398 := Am ((by rw [hg]; exact Nat.ne_of_lt (IsS28.lt (show IsS28 w0 _ g s0_0 s0_1 from HI0.out)) : g ≠ gb398)); have NB398_0 := Am ((by rw [hg]; exact Nat.ne_of_gt (IsS28.lt (show IsS28 w0 _ g s0_0 s0_1 from HI0.out)) : gb398 ≠ g)); replace HI0 := Am (IsS28.below HI0.out hb); clear hb hbox hg; have hnb12 := NB398_0.out; have hnc12 := NB0_398.out; obtain ⟨hcz13_0, hcz13_1, hfz13_0, hfz13_1⟩ := cb2 BK398.out))
     go_ret
     exact ⟨by rfl, by repeat ((with_reducible first | exact HI0.out | refine IsS28.far ?_ NB0_398.out _)), by repeat ((with_reducible first | exact HB.out | refine below_set ?_ GE398.out)), by repeat ((with_reducible first | exact HK.out | refine keep_far ?_ GW398.out _))⟩
    ·rw [if_neg c10] at H
     have c10b0 : (((rd_T143 ((rd_T86 s0_0 a1).f4) x18_1).f0).toList == a2.toList) = false := beq_eq_false_iff_ne.mpr c10
     have c10b1 : (((rd_T143 ((rd_T86 s0_0 a1).f4) x18_1).f0).toList != a2.toList) = true := bne_iff_ne.mpr c10
     have H' := Am H
     clear H
     have p397 : 0 ≤ (x18_1 : Int) := od (by assumption)
     have q397 : x18_1 < (((rd_T86 s0_0 a1).f4).length : Int) := od (by assumption)
     obtain ⟨ad397, e397, hx397_0, hx397_1⟩ := at_T143 HR396_4.out x18_1 p397 q397
     cases e397
     replace hx397_0 := pcb HB.out hx397_0
     replace hx397_1 := pcb HB.out hx397_1
     replace p397 := eq_true p397
     replace q397 := eq_true q397
     go_wp2_with (((with_reducible refine gate_dst (N := 8) rfl ?_); refine box_event ?hg (N := 8) ?hd (cs := #[.string (⟨#[]⟩ : ByteArray), .int .i64 0]) (t := 143) ?hr ?_; (case hd => rfl); (case hg => rfl); (case hr => (go_simp; done)); intro gb398 hg w14 hbox hb; replace HB := Am (below_step HB.out hb); have BK398 := Am hbox; have GW398 := Am ((by rw [hg]; exact (keep_size (w := w) (g := g) (row := none) HK.out) : w.heap.size ≤ gb398)); have GE398 := Am ((Nat.le_trans HW0.out (by rw [hg]; exact (keep_size (w := w) (g := g) (row := none) HK.out) : w.heap.size ≤ gb398) : w0.heap.size ≤ gb398)); replace HK := Am (KeepBut.trans HK.out (KeepBut.of_below hb g none) (.inl rfl)); have NB0_398 := Am ((by rw [hg]; exact Nat.ne_of_lt (IsS28.lt (show IsS28 w0 _ g s0_0 s0_1 from HI0.out)) : g ≠ gb398)); have NB398_0 := Am ((by rw [hg]; exact Nat.ne_of_gt (IsS28.lt (show IsS28 w0 _ g s0_0 s0_1 from HI0.out)) : gb398 ≠ g)); replace HI0 := Am (IsS28.below HI0.out hb); clear hb hbox hg; have hnb15 := NB398_0.out; have hnc15 := NB0_398.out; obtain ⟨hcz16_0, hcz16_1, hfz16_0, hfz16_1⟩ := cb2 BK398.out))
     go_roundg k1
     case measure => have := HK1.out; omega
     case rel => exact ⟨(wrap64 (x18_1 + 1)), (by rfl), H', ⟨by have := HK1.out; omega⟩, ⟨by repeat ((with_reducible first | exact HI0.out | refine IsS28.far ?_ NB0_398.out _))⟩, ⟨by repeat ((with_reducible first | exact HK.out | refine keep_far ?_ GW398.out _))⟩, ⟨by repeat ((with_reducible first | exact HB.out | refine below_set ?_ GE398.out))⟩⟩
   ·rw [if_neg c7] at H
    have c7b0 : decide (x18_1 < (((rd_T86 s0_0 a1).f4).length : Int)) = false := decide_eq_false c7
    clear c7
    obtain rfl := Option.some.inj H
    go_wp2
    go_ret
    exact ⟨by rfl, HI0.out, HB.out, HK.out⟩
def q3.l0 : Nat → Int → List ByteArray → Int → Int → List (S86) → List (List Int) → Option (Int × Int)
 | 0, _, _, _, _, _, _ => none
 | k + 1, x6, x9, x10, x11, x1000, x1001 => if x11 < x10 then (if 0 ≤ x11 then (if x11 < (x9.length : Int) then (if 0 ≤ x6 then (if x6 < (x1000.length : Int) then (if ((rd_T86 x1000 x6).f0) = 2 then ((q0.f k x1000 x1001 x6 (rdOf ByteArray.empty x9 x11)).bind fun t401 => (if t401 < 0 then (some (0, 4)) else (q3.l0 k t401 x9 x10 (wrap64 (x11 + 1)) x1000 x1001))) else (some (0, 9))) else (none)) else (none)) else (none)) else (none)) else (some (x6, 0))
def q3.f (k : Nat) (s0_0 : List (S86)) (s0_1 : List (List Int)) (l1 : List ByteArray) : Option (Int × Int) := q3.l0 k 0 l1 (l1.length : Int) 0 s0_0 s0_1
theorem q3.mono_l : ∀ k, (∀ y0 y1 y2 y3 y4 y5, LeO (q3.l0 k y0 y1 y2 y3 y4 y5) (q3.l0 (k + 1) y0 y1 y2 y3 y4 y5))
 | 0 => fun _ _ _ _ _ _ r h => by simp [q3.l0] at h
 | k + 1 => by
  have ih0 := q3.mono_l k
  ·intro y0 y1 y2 y3 y4 y5
   unfold q3.l0
   repeat' first | (with_reducible exact ih0 _ _ _ _ _ _) | (with_reducible exact q0.mono _ _ _ _ _) | (with_reducible exact LeO.refl _) | (with_reducible refine LeO.ite ?_ ?_) | (with_reducible refine LeO.bind ?_ (fun _ => ?_))
theorem q3.mono : ∀ a0 a1 a2 k, LeO (q3.f k a0 a1 a2) (q3.f (k + 1) a0 a1 a2) := by
 intro a0 a1 a2 k
 have ih0 := q3.mono_l k
 unfold q3.f
 repeat' (with_reducible exact ih0 _ _ _ _ _ _)
set_option maxHeartbeats 8000000 in
set_option maxRecDepth 100000 in
theorem q3.calls (k : Nat) (g : Nat) (s0_0 : List (S86)) (s0_1 : List (List Int)) (A1 : Option Addr) (c1 : Nat) (l1 : List ByteArray) (r1 : Int) (r2 : Int) (w0 w : World) (hI : IsS28 w0 w g s0_0 s0_1) (hB : Below w0.heap.size w0 w) (hr1 : Kd.C Kd.string w A1 l1.length l1) (hc1 : l1.length ≤ c1) (hf1 : ∀ ad, A1 = some ad → 0 < l1.length → ad.block ≠ g) (h : q3.f k s0_0 s0_1 l1 = some (r1, r2)) :
  Calls Tryz.prog 188 #[.pointer (some ⟨g, 0, none⟩), .slice A1 l1.length c1] w fun e w' => e = .returned (.tuple #[.int .i64 r1, .int .i64 r2]) ∧ IsS28 w0 w' g s0_0 s0_1 ∧ Below w0.heap.size w0 w' ∧ KeepBut w w' g none := by
 have HR1 := Am hr1
 have HC1 := Am hc1
 clear hr1 hc1
 have HI0 := Am hI
 have HK := Am (KeepBut.refl w g none)
 have HL := Am hB.size
 clear hI
 have HW0 := Am hB.size
 have HB := Am hB
 clear hB
 have H : (q3.l0 k 0 l1 (l1.length : Int) 0 s0_0 s0_1) = some (r1, r2) := h
 clear h
 have H' := Am H
 clear H
 go_enter Tryz.func188, Tryz.ntmps188
 go_wp2
 go_loopg [6, 11] k (fun kq v6 v11 w' => ∃ (x6_1 : Int) (x11_1 : Int), v6 = .int .i64 x6_1 ∧ v11 = .int .i64 x11_1 ∧ Aside0 (q3.l0 kq x6_1 l1 (l1.length : Int) x11_1 s0_0 s0_1 = some (r1, r2)) ∧ Aside0 (kq ≤ k) ∧ Aside0 (IsS28 w0 w' g s0_0 s0_1) ∧ Aside0 (KeepBut w w' g none) ∧ Aside0 (Below w0.heap.size w0 w'))
 case atStart => exact ⟨(0), (0), (by rfl), (by rfl), H', ⟨Nat.le_refl _⟩, ⟨HI0.out⟩, ⟨HK.out⟩, ⟨HB.out⟩⟩
 case round =>
  clear H'
  obtain ⟨x6_1, x11_1, rfl, rfl, HA, HK1, HI0, HK, HB⟩ := hrel
  cases gk with
  | zero => exact absurd HA.out (by simp [q3.l0])
  | succ k1 =>
   have H := HA.out
   clear HA
   simp only [q3.l0] at H
   by_cases c3 : x11_1 < (l1.length : Int)
   ·rw [if_pos c3] at H
    have c3b0 : decide (x11_1 < (l1.length : Int)) = true := decide_eq_true c3
    clear c3
    replace H := ino H
    obtain ⟨c4, H⟩ := H
    have c4b0 : decide (0 ≤ x11_1) = true := decide_eq_true c4
    clear c4
    replace H := ino H
    obtain ⟨c5, H⟩ := H
    have c5b0 : decide (x11_1 < (l1.length : Int)) = true := decide_eq_true c5
    clear c5
    replace H := ino H
    obtain ⟨c6, H⟩ := H
    have c6b0 : decide (0 ≤ x6_1) = true := decide_eq_true c6
    clear c6
    replace H := ino H
    obtain ⟨c7, H⟩ := H
    have c7b0 : decide (x6_1 < (s0_0.length : Int)) = true := decide_eq_true c7
    clear c7
    by_cases c8 : ((rd_T86 s0_0 x6_1).f0) = 2
    ·rw [if_pos c8] at H
     have c8b0 : (((rd_T86 s0_0 x6_1).f0) == 2) = true := beq_iff_eq.mpr c8
     have c8b1 : (((rd_T86 s0_0 x6_1).f0) != 2) = false := bne_eq_false_iff_eq.mpr c8
     clear c8
     replace H := zbs H
     obtain ⟨t401, A9, H⟩ := H
     by_cases c10 : t401 < 0
     ·rw [if_pos c10] at H
      have c10b0 : decide (t401 < 0) = true := decide_eq_true c10
      clear c10
      simp only [Option.some.injEq, Prod.mk.injEq] at H
      obtain ⟨rfl, rfl⟩ := H
      have p399 : 0 ≤ (x11_1 : Int) := od (by assumption)
      have q399 : x11_1 < (l1.length : Int) := od (by assumption)
      obtain ⟨ad399, e399, hx399_0⟩ := Kd.at_string HR1.out x11_1 p399 q399
      cases e399
      replace hx399_0 := keep_cell HK.out hx399_0 (by (rw [add_block]; exact hf1 _ rfl (by omega)))
      replace p399 := eq_true p399
      replace q399 := eq_true q399
      obtain ⟨ASz11_0, cSz11_0, ASz11_1, cSz11_1, HGz11, hgz11, HSz11_0, HSz11_1⟩ := HI0.out
      have hcz11_0 := cellS28_0 HGz11
      have hcz11_1 := cellS28_1 HGz11
      clear HGz11 hgz11
      have p400 : 0 ≤ (x6_1 : Int) := od (by assumption)
      have q400 : x6_1 < (s0_0.length : Int) := od (by assumption)
      obtain ⟨ad400, A400_3, c400_3, A400_4, c400_4, e400, hx400_0, hx400_1, hx400_2, hx400_3, hx400_4, hl400_3, hi400_3, hl400_4, hi400_4⟩ := at_T86 HSz11_0.1 x6_1 p400 q400
      cases e400
      replace hx400_0 := pcb HB.out hx400_0
      replace hx400_1 := pcb HB.out hx400_1
      replace hx400_2 := pcb HB.out hx400_2
      replace hx400_3 := pcb HB.out hx400_3
      replace hx400_4 := pcb HB.out hx400_4
      have HR400_3 := Am hi400_3
      have HC400_3 := Am hl400_3
      clear hi400_3 hl400_3
      have HR400_4 := Am hi400_4
      have HC400_4 := Am hl400_4
      clear hi400_4 hl400_4
      replace p400 := eq_true p400
      replace q400 := eq_true q400
      go_wp2_with (((with_reducible refine gate_callee (f := 179) rfl ?_); refine goesL_ (some 27) rfl rfl Tryz.func179 (by kernel_rfl) rfl #[.pointer (some ⟨g, 0, none⟩), .int .i64 x6_1, .string (rdOf ByteArray.empty l1 x11_1)] rfl (by (try simp only [List.map_toArray, List.map_cons, List.map_nil]); rfl) ?_; (with_reducible refine (q0.calls k1 g s0_0 s0_1 x6_1 (rdOf ByteArray.empty l1 x11_1) t401 w0 _ ?side1 ?side2 A9.out).mono ?_); (case side1 => repeat ((with_reducible exact HI0.out))); (case side2 => repeat ((with_reducible exact HB.out))); rintro e w12 ⟨rfl, hi, hb, hk⟩; refine ⟨_, rfl, ?_⟩; replace HK := Am (KeepBut.trans HK.out hk (.inl rfl)); replace HB := Am hb; replace HI0 := Am hi; (try clear hb); (try clear hk); (try clear hi)))
      go_ret2
      exact ⟨by rfl, HI0.out, HB.out, HK.out⟩
     ·rw [if_neg c10] at H
      have c10b0 : decide (t401 < 0) = false := decide_eq_false c10
      clear c10
      have H' := Am H
      clear H
      have p399 : 0 ≤ (x11_1 : Int) := od (by assumption)
      have q399 : x11_1 < (l1.length : Int) := od (by assumption)
      obtain ⟨ad399, e399, hx399_0⟩ := Kd.at_string HR1.out x11_1 p399 q399
      cases e399
      replace hx399_0 := keep_cell HK.out hx399_0 (by (rw [add_block]; exact hf1 _ rfl (by omega)))
      replace p399 := eq_true p399
      replace q399 := eq_true q399
      obtain ⟨ASz13_0, cSz13_0, ASz13_1, cSz13_1, HGz13, hgz13, HSz13_0, HSz13_1⟩ := HI0.out
      have hcz13_0 := cellS28_0 HGz13
      have hcz13_1 := cellS28_1 HGz13
      clear HGz13 hgz13
      have p400 : 0 ≤ (x6_1 : Int) := od (by assumption)
      have q400 : x6_1 < (s0_0.length : Int) := od (by assumption)
      obtain ⟨ad400, A400_3, c400_3, A400_4, c400_4, e400, hx400_0, hx400_1, hx400_2, hx400_3, hx400_4, hl400_3, hi400_3, hl400_4, hi400_4⟩ := at_T86 HSz13_0.1 x6_1 p400 q400
      cases e400
      replace hx400_0 := pcb HB.out hx400_0
      replace hx400_1 := pcb HB.out hx400_1
      replace hx400_2 := pcb HB.out hx400_2
      replace hx400_3 := pcb HB.out hx400_3
      replace hx400_4 := pcb HB.out hx400_4
      have HR400_3 := Am hi400_3
      have HC400_3 := Am hl400_3
      clear hi400_3 hl400_3
      have HR400_4 := Am hi400_4
      have HC400_4 := Am hl400_4
      clear hi400_4 hl400_4
      replace p400 := eq_true p400
      replace q400 := eq_true q400
      go_wp2_with (((with_reducible refine gate_callee (f := 179) rfl ?_); refine goesL_ (some 27) rfl rfl Tryz.func179 (by kernel_rfl) rfl #[.pointer (some ⟨g, 0, none⟩), .int .i64 x6_1, .string (rdOf ByteArray.empty l1 x11_1)] rfl (by (try simp only [List.map_toArray, List.map_cons, List.map_nil]); rfl) ?_; (with_reducible refine (q0.calls k1 g s0_0 s0_1 x6_1 (rdOf ByteArray.empty l1 x11_1) t401 w0 _ ?side1 ?side2 A9.out).mono ?_); (case side1 => repeat ((with_reducible exact HI0.out))); (case side2 => repeat ((with_reducible exact HB.out))); rintro e w14 ⟨rfl, hi, hb, hk⟩; refine ⟨_, rfl, ?_⟩; replace HK := Am (KeepBut.trans HK.out hk (.inl rfl)); replace HB := Am hb; replace HI0 := Am hi; (try clear hb); (try clear hk); (try clear hi)))
      go_roundg k1
      case measure => have := HK1.out; omega
      case rel => exact ⟨(t401), (wrap64 (x11_1 + 1)), (by rfl), (by rfl), H', ⟨by have := HK1.out; omega⟩, ⟨HI0.out⟩, ⟨HK.out⟩, ⟨HB.out⟩⟩
    ·rw [if_neg c8] at H
     have c8b0 : (((rd_T86 s0_0 x6_1).f0) == 2) = false := beq_eq_false_iff_ne.mpr c8
     have c8b1 : (((rd_T86 s0_0 x6_1).f0) != 2) = true := bne_iff_ne.mpr c8
     simp only [Option.some.injEq, Prod.mk.injEq] at H
     obtain ⟨rfl, rfl⟩ := H
     have p399 : 0 ≤ (x11_1 : Int) := od (by assumption)
     have q399 : x11_1 < (l1.length : Int) := od (by assumption)
     obtain ⟨ad399, e399, hx399_0⟩ := Kd.at_string HR1.out x11_1 p399 q399
     cases e399
     replace hx399_0 := keep_cell HK.out hx399_0 (by (rw [add_block]; exact hf1 _ rfl (by omega)))
     replace p399 := eq_true p399
     replace q399 := eq_true q399
     obtain ⟨ASz15_0, cSz15_0, ASz15_1, cSz15_1, HGz15, hgz15, HSz15_0, HSz15_1⟩ := HI0.out
     have hcz15_0 := cellS28_0 HGz15
     have hcz15_1 := cellS28_1 HGz15
     clear HGz15 hgz15
     have p400 : 0 ≤ (x6_1 : Int) := od (by assumption)
     have q400 : x6_1 < (s0_0.length : Int) := od (by assumption)
     obtain ⟨ad400, A400_3, c400_3, A400_4, c400_4, e400, hx400_0, hx400_1, hx400_2, hx400_3, hx400_4, hl400_3, hi400_3, hl400_4, hi400_4⟩ := at_T86 HSz15_0.1 x6_1 p400 q400
     cases e400
     replace hx400_0 := pcb HB.out hx400_0
     replace hx400_1 := pcb HB.out hx400_1
     replace hx400_2 := pcb HB.out hx400_2
     replace hx400_3 := pcb HB.out hx400_3
     replace hx400_4 := pcb HB.out hx400_4
     have HR400_3 := Am hi400_3
     have HC400_3 := Am hl400_3
     clear hi400_3 hl400_3
     have HR400_4 := Am hi400_4
     have HC400_4 := Am hl400_4
     clear hi400_4 hl400_4
     replace p400 := eq_true p400
     replace q400 := eq_true q400
     go_wp2
     go_ret2
     exact ⟨by rfl, HI0.out, HB.out, HK.out⟩
   ·rw [if_neg c3] at H
    have c3b0 : decide (x11_1 < (l1.length : Int)) = false := decide_eq_false c3
    clear c3
    simp only [Option.some.injEq, Prod.mk.injEq] at H
    obtain ⟨rfl, rfl⟩ := H
    go_wp2
    go_ret2
    exact ⟨by rfl, HI0.out, HB.out, HK.out⟩
def q2j.f (a0 : ByteArray) (a1 : ByteArray) : Option (Bool) := if (a0.size : Int) ≥ (a1.size : Int) then (if 0 ≤ (a1.size : Int) then (if (a1.size : Int) ≤ (a0.size : Int) then (some ((a0.extract 0 ((a1.size : Int) : Int).toNat).toList == a1.toList)) else (none)) else (none)) else (some false)
set_option maxHeartbeats 8000000 in
set_option maxRecDepth 100000 in
theorem q2j.calls (a0 : ByteArray) (a1 : ByteArray) (r : Bool) (w : World) (h : q2j.f a0 a1 = some r) :
  Calls Tryz.prog 267 #[.string a0, .string a1] w fun e w' => e = .returned (.bool r) ∧ Drawn0 w w' := by
 have H : (if (a0.size : Int) ≥ (a1.size : Int) then (if 0 ≤ (a1.size : Int) then (if (a1.size : Int) ≤ (a0.size : Int) then (some ((a0.extract 0 ((a1.size : Int) : Int).toNat).toList == a1.toList)) else (none)) else (none)) else (some false)) = some r := h
 clear h
 by_cases c3 : (a0.size : Int) ≥ (a1.size : Int)
 ·rw [if_pos c3] at H
  have c3b0 : decide ((a1.size : Int) ≤ (a0.size : Int)) = true := decide_eq_true c3
  have c3b1 : decide (a1.size ≤ a0.size) = true := decide_eq_true (Int.ofNat_le.mp c3)
  clear c3
  replace H := ino H
  obtain ⟨c4, H⟩ := H
  have c4b0 := eq_true c4
  have c4b1 : decide (0 ≤ (a1.size : Int)) = true := decide_eq_true c4
  clear c4
  replace H := ino H
  obtain ⟨c5, H⟩ := H
  have c5b0 := eq_true c5
  have c5b1 : decide ((a1.size : Int) ≤ (a0.size : Int)) = true := decide_eq_true c5
  clear c5
  obtain rfl := Option.some.inj H
  go_enter Tryz.func267, Tryz.ntmps267
  go_wp2
  go_ret
  exact ⟨by rfl, by repeat (exact Drawn0.refl _)⟩
 ·rw [if_neg c3] at H
  have c3b0 : decide ((a1.size : Int) ≤ (a0.size : Int)) = false := decide_eq_false c3
  have c3b1 : decide (a1.size ≤ a0.size) = false := decide_eq_false (fun h => c3 (Int.ofNat_le.mpr h))
  clear c3
  obtain rfl := Option.some.inj H
  go_enter Tryz.func267, Tryz.ntmps267
  go_wp2
  go_ret
  exact ⟨by rfl, by repeat (exact Drawn0.refl _)⟩
def q2e.f (a0 : ByteArray) (a1 : ByteArray) : Option (Bool) := (q2j.f a0 a1).bind fun t365 => (some t365)
set_option maxHeartbeats 8000000 in
set_option maxRecDepth 100000 in
theorem q2e.calls (a0 : ByteArray) (a1 : ByteArray) (r : Bool) (w : World) (h : q2e.f a0 a1 = some r) :
  Calls Tryz.prog 236 #[.string a0, .string a1] w fun e w' => e = .returned (.bool r) ∧ Drawn0 w w' := by
 have H : ((q2j.f a0 a1).bind fun t365 => (some t365)) = some r := h
 clear h
 replace H := zbs H
 obtain ⟨t365, A3, H⟩ := H
 obtain rfl := Option.some.inj H
 go_enter Tryz.func236, Tryz.ntmps236
 go_wp2_with (((with_reducible refine gate_callee (f := 267) rfl ?_); refine goesL_ (some 7) rfl rfl Tryz.func267 (by kernel_rfl) rfl #[.string a0, .string a1] rfl (by (try simp only [List.map_toArray, List.map_cons, List.map_nil]); rfl) ?_; (with_reducible refine (q2j.calls a0 a1 t365 _ A3.out).mono ?_); rintro e w' ⟨rfl, ⟨nd, rfl⟩⟩; refine ⟨_, rfl, ?_⟩))
 go_ret
 exact ⟨by rfl, by repeat (first | exact Drawn0.refl _ | apply Drawn0.step)⟩
def q2k.f (a0 : ByteArray) (a1 : ByteArray) : Option (Bool) := if (a0.size : Int) ≥ (a1.size : Int) then (if 0 ≤ (wrap64 ((a0.size : Int) - (a1.size : Int))) then (if (wrap64 ((a0.size : Int) - (a1.size : Int))) ≤ (a0.size : Int) then (some ((a0.extract ((wrap64 ((a0.size : Int) - (a1.size : Int))) : Int).toNat a0.size).toList == a1.toList)) else (none)) else (none)) else (some false)
set_option maxHeartbeats 8000000 in
set_option maxRecDepth 100000 in
theorem q2k.calls (a0 : ByteArray) (a1 : ByteArray) (r : Bool) (w : World) (h : q2k.f a0 a1 = some r) :
  Calls Tryz.prog 268 #[.string a0, .string a1] w fun e w' => e = .returned (.bool r) ∧ Drawn0 w w' := by
 have H : (if (a0.size : Int) ≥ (a1.size : Int) then (if 0 ≤ (wrap64 ((a0.size : Int) - (a1.size : Int))) then (if (wrap64 ((a0.size : Int) - (a1.size : Int))) ≤ (a0.size : Int) then (some ((a0.extract ((wrap64 ((a0.size : Int) - (a1.size : Int))) : Int).toNat a0.size).toList == a1.toList)) else (none)) else (none)) else (some false)) = some r := h
 clear h
 by_cases c3 : (a0.size : Int) ≥ (a1.size : Int)
 ·rw [if_pos c3] at H
  have c3b0 : decide ((a1.size : Int) ≤ (a0.size : Int)) = true := decide_eq_true c3
  have c3b1 : decide (a1.size ≤ a0.size) = true := decide_eq_true (Int.ofNat_le.mp c3)
  clear c3
  obtain ⟨ji4, hji4⟩ : ∃ j_ : Int, (wrap64 ((a0.size : Int) - (a1.size : Int))) = j_ := ⟨_, rfl⟩
  replace H : (if 0 ≤ (ji4) then (if (ji4) ≤ (a0.size : Int) then (some ((a0.extract ((ji4) : Int).toNat a0.size).toList == a1.toList)) else (none)) else (none)) = some r := by (rw [hji4] at H; exact H)
  have hji4w : (IntKind.i64.wrap ((a0.size : Int) - (a1.size : Int))) = ji4 := (i64_w _).trans hji4
  replace H := ino H
  obtain ⟨c5, H⟩ := H
  have c5b0 := eq_true c5
  have c5b1 : decide (0 ≤ (ji4)) = true := decide_eq_true c5
  clear c5
  replace H := ino H
  obtain ⟨c6, H⟩ := H
  have c6b0 := eq_true c6
  have c6b1 : decide ((ji4) ≤ (a0.size : Int)) = true := decide_eq_true c6
  clear c6
  obtain rfl := Option.some.inj H
  go_enter Tryz.func268, Tryz.ntmps268
  go_wp2
  go_ret
  exact ⟨by rfl, by repeat (exact Drawn0.refl _)⟩
 ·rw [if_neg c3] at H
  have c3b0 : decide ((a1.size : Int) ≤ (a0.size : Int)) = false := decide_eq_false c3
  have c3b1 : decide (a1.size ≤ a0.size) = false := decide_eq_false (fun h => c3 (Int.ofNat_le.mpr h))
  clear c3
  obtain rfl := Option.some.inj H
  go_enter Tryz.func268, Tryz.ntmps268
  go_wp2
  go_ret
  exact ⟨by rfl, by repeat (exact Drawn0.refl _)⟩
def q2f.f (a0 : ByteArray) (a1 : ByteArray) : Option (Bool) := (q2k.f a0 a1).bind fun t366 => (some t366)
set_option maxHeartbeats 8000000 in
set_option maxRecDepth 100000 in
theorem q2f.calls (a0 : ByteArray) (a1 : ByteArray) (r : Bool) (w : World) (h : q2f.f a0 a1 = some r) :
  Calls Tryz.prog 237 #[.string a0, .string a1] w fun e w' => e = .returned (.bool r) ∧ Drawn0 w w' := by
 have H : ((q2k.f a0 a1).bind fun t366 => (some t366)) = some r := h
 clear h
 replace H := zbs H
 obtain ⟨t366, A3, H⟩ := H
 obtain rfl := Option.some.inj H
 go_enter Tryz.func237, Tryz.ntmps237
 go_wp2_with (((with_reducible refine gate_callee (f := 268) rfl ?_); refine goesL_ (some 7) rfl rfl Tryz.func268 (by kernel_rfl) rfl #[.string a0, .string a1] rfl (by (try simp only [List.map_toArray, List.map_cons, List.map_nil]); rfl) ?_; (with_reducible refine (q2k.calls a0 a1 t366 _ A3.out).mono ?_); rintro e w' ⟨rfl, ⟨nd, rfl⟩⟩; refine ⟨_, rfl, ?_⟩))
 go_ret
 exact ⟨by rfl, by repeat (first | exact Drawn0.refl _ | apply Drawn0.step)⟩
end Go.Proofs.YtafhjhdohclchaaGreatDoor.G
namespace Go.Proofs.YtafhjhdohclchaaGreatDoor.G
open Go.RowKit Go.Proofs.YtafhjhdohclchaaGreatDoorW.PrintWords Go.Proofs.YtafhjhdohclchaaGreatDoorW.PrintLast Go.Proofs.YtafhjhdohclchaaGreatDoorW.PrintMore
attribute [local go_sem] min2_int min_two
attribute [local go_sem high] str_leq
attribute [local go_sem] binOp_string_geq
mutual
def qn.j0 : Nat → ByteArray → Bool → Option (List ByteArray × Int)
 | 0, _, _ => none
 | k + 1, x0, x19 => if x19 = true then (some (([] : List ByteArray), 5)) else (if 1 ≤ (x0.size : Int) then ((q2h.f k (x0.extract 1 x0.size) (⟨#[47]⟩ : ByteArray)).bind fun t391 => (if (t391.length : Int) > 6 then (some (([] : List ByteArray), 2)) else (qn.l0 k t391 t391 (t391.length : Int) 0))) else (none))
def qn.l0 : Nat → List ByteArray → List ByteArray → Int → Int → Option (List ByteArray × Int)
 | 0, _, _, _, _ => none
 | k + 1, x4, x26, x27, x28 => if x28 < x27 then (if 0 ≤ x28 then (if x28 < (x26.length : Int) then ((qi.f k (rdOf ByteArray.empty x26 x28)).bind fun t395 => (if t395 = 0 then (qn.l0 k x4 x26 x27 (wrap64 (x28 + 1))) else (some (([] : List ByteArray), t395)))) else (none)) else (none)) else (some (x4, 0))
end
def qn.f (k : Nat) (a0 : ByteArray) : Option (List ByteArray × Int) := if (a0.size : Int) > 30 then (some (([] : List ByteArray), 2)) else (if a0.toList = ([47] : List UInt8) then (some (([] : List ByteArray), 0)) else ((q2e.f a0 (⟨#[47]⟩ : ByteArray)).bind fun t389 => (if t389 = true then ((q2f.f a0 (⟨#[47]⟩ : ByteArray)).bind fun t390 => (qn.j0 k a0 t390)) else (qn.j0 k a0 true))))
theorem qn.mono_l : ∀ k, (∀ y0 y1, LeO (qn.j0 k y0 y1) (qn.j0 (k + 1) y0 y1)) ∧ (∀ y0 y1 y2 y3, LeO (qn.l0 k y0 y1 y2 y3) (qn.l0 (k + 1) y0 y1 y2 y3))
 | 0 => ⟨fun _ _ r h => by simp [qn.j0] at h, fun _ _ _ _ r h => by simp [qn.l0] at h⟩
 | k + 1 => by
  obtain ⟨ih0, ih1⟩ := qn.mono_l k
  refine ⟨?_, ?_⟩
  ·intro y0 y1
   unfold qn.j0
   repeat' first | (with_reducible exact ih1 _ _ _ _) | (with_reducible exact q2h.mono _ _ _) | (with_reducible exact LeO.refl _) | (with_reducible refine LeO.ite ?_ ?_) | (with_reducible refine LeO.bind ?_ (fun _ => ?_))
  ·intro y0 y1 y2 y3
   unfold qn.l0
   repeat' first | (with_reducible exact ih1 _ _ _ _) | (with_reducible exact qi.mono _ _) | (with_reducible exact LeO.refl _) | (with_reducible refine LeO.ite ?_ ?_) | (with_reducible refine LeO.bind ?_ (fun _ => ?_))
theorem qn.mono : ∀ a0 k, LeO (qn.f k a0) (qn.f (k + 1) a0) := by
 intro a0 k
 obtain ⟨ih0, ih1⟩ := qn.mono_l k
 unfold qn.f
 repeat' first | (with_reducible exact ih0 _ _) | (with_reducible exact LeO.refl _) | (with_reducible refine LeO.ite ?_ ?_) | (with_reducible refine LeO.bind ?_ (fun _ => ?_))
set_option maxHeartbeats 8000000 in
set_option maxRecDepth 100000 in
theorem qn.calls (k : Nat) (a0 : ByteArray) (r1 : List ByteArray) (r2 : Int) (w : World) (h : qn.f k a0 = some (r1, r2)) :
  Calls Tryz.prog 187 #[.string a0] w fun e w' => ∃ v0_ : Value, e = .returned (.tuple #[v0_, .int .i64 r2]) ∧ Kd.R Kd.string 9 w' w.heap.size (fun _ => True) v0_ r1 ∧ Below w.heap.size w w' := by
 have HB := Am (Below.refl w.heap.size w)
 have H : (if (a0.size : Int) > 30 then (some (([] : List ByteArray), 2)) else (if a0.toList = ([47] : List UInt8) then (some (([] : List ByteArray), 0)) else ((q2e.f a0 (⟨#[47]⟩ : ByteArray)).bind fun t389 => (if t389 = true then ((q2f.f a0 (⟨#[47]⟩ : ByteArray)).bind fun t390 => (qn.j0 k a0 t390)) else (qn.j0 k a0 true))))) = some (r1, r2) := h
 clear h
 by_cases c2 : (a0.size : Int) > 30
 ·rw [if_pos c2] at H
  have c2b0 : decide (30 < (a0.size : Int)) = true := decide_eq_true c2
  have c2b1 : decide (30 < a0.size) = true := decide_eq_true (by omega)
  clear c2
  simp only [Option.some.injEq, Prod.mk.injEq] at H
  obtain ⟨rfl, rfl⟩ := H
  go_enter Tryz.func187, Tryz.ntmps187
  go_wp2
  go_ret2
  exact ⟨_, by rfl, by exact Kd.R_nil _ _ _ _ _, HB.out⟩
 ·rw [if_neg c2] at H
  have c2b0 : decide (30 < (a0.size : Int)) = false := decide_eq_false c2
  have c2b1 : decide (30 < a0.size) = false := decide_eq_false (by omega)
  clear c2
  by_cases c3 : a0.toList = ([47] : List UInt8)
  ·rw [if_pos c3] at H
   have c3b0 : (a0.toList == ([47] : List UInt8)) = true := beq_iff_eq.mpr c3
   have c3b1 : (a0.toList != ([47] : List UInt8)) = false := bne_eq_false_iff_eq.mpr c3
   clear c3
   simp only [Option.some.injEq, Prod.mk.injEq] at H
   obtain ⟨rfl, rfl⟩ := H
   go_enter Tryz.func187, Tryz.ntmps187
   go_wp2
   go_ret2
   exact ⟨_, by rfl, by exact Kd.R_nil _ _ _ _ _, HB.out⟩
  ·rw [if_neg c3] at H
   have c3b0 : (a0.toList == ([47] : List UInt8)) = false := beq_eq_false_iff_ne.mpr c3
   have c3b1 : (a0.toList != ([47] : List UInt8)) = true := bne_iff_ne.mpr c3
   have HC4 := Am H
   clear H
   go_enter Tryz.func187, Tryz.ntmps187
   go_upto_region 5 with (fail)
   go_cut [19] (fun v19 wc => ∃ (kq : Nat) (x19_3 : Bool), v19 = .bool x19_3 ∧ Aside0 (qn.j0 kq a0 x19_3 = some (r1, r2)) ∧ Aside0 (kq ≤ k) ∧ Aside0 (Below w.heap.size w wc))
   case first =>
    have H := HC4.out
    clear HC4
    replace H := zbs H
    obtain ⟨t389, A5, H⟩ := H
    by_cases c6 : t389 = true
    ·subst c6
     have H1 : ((q2f.f a0 (⟨#[47]⟩ : ByteArray)).bind fun t390 => (qn.j0 k a0 t390)) = some (r1, r2) := by rw [if_pos rfl] at H; exact H
     clear H
     have H := H1
     clear H1
     replace H := zbs H
     obtain ⟨t390, A7, H⟩ := H
     have H' := Am H
     clear H
     go_wp2_with (first | ((with_reducible refine gate_callee (f := 236) rfl ?_); refine goesL_ (some 14) rfl rfl Tryz.func236 (by kernel_rfl) rfl #[.string a0, .string (⟨#[47]⟩ : ByteArray)] rfl (by (try simp only [List.map_toArray, List.map_cons, List.map_nil]); rfl) ?_; (with_reducible refine (q2e.calls a0 (⟨#[47]⟩ : ByteArray) true _ A5.out).mono ?_); rintro e w' ⟨rfl, ⟨nd, rfl⟩⟩; refine ⟨_, rfl, ?_⟩) | (go_at_call 237; (with_reducible refine (q2f.calls a0 (⟨#[47]⟩ : ByteArray) t390 _ A7.out).mono ?_); rintro e w' ⟨rfl, ⟨nd, rfl⟩⟩))
     go_meet
     case rel => exact ⟨_, (t390), (by rfl), H', ⟨by omega⟩, ⟨by repeat ((with_reducible first | exact HB.out | apply pw_below_drewN))⟩⟩
    ·replace c6 := Bool.eq_false_iff.mpr c6
     subst c6
     have H1 : (qn.j0 k a0 true) = some (r1, r2) := by rw [if_neg (show ¬ (false = true) by decide)] at H; exact H
     clear H
     have H := H1
     clear H1
     have H' := Am H
     clear H
     go_wp2_with (((with_reducible refine gate_callee (f := 236) rfl ?_); refine goesL_ (some 14) rfl rfl Tryz.func236 (by kernel_rfl) rfl #[.string a0, .string (⟨#[47]⟩ : ByteArray)] rfl (by (try simp only [List.map_toArray, List.map_cons, List.map_nil]); rfl) ?_; (with_reducible refine (q2e.calls a0 (⟨#[47]⟩ : ByteArray) false _ A5.out).mono ?_); rintro e w' ⟨rfl, ⟨nd, rfl⟩⟩; refine ⟨_, rfl, ?_⟩))
     go_meet
     case rel => exact ⟨_, (true), (by rfl), H', ⟨by omega⟩, ⟨by repeat ((with_reducible first | exact HB.out | apply pw_below_drewN))⟩⟩
   case rest =>
    clear HC4
    try clear c2b0
    try clear c2b1
    try clear c3
    try clear c3b0
    try clear c3b1
    obtain ⟨kq, x19_3, rfl, HA, HJ3, HB⟩ := hcut
    cases kq with
    | zero => exact absurd HA.out (by simp [qn.j0])
    | succ kj3 =>
     have H := HA.out
     clear HA
     simp only [qn.j0] at H
     by_cases c8 : x19_3 = true
     ·subst c8
      have H1 : (some (([] : List ByteArray), 5)) = some (r1, r2) := by rw [if_pos rfl] at H; exact H
      clear H
      have H := H1
      clear H1
      simp only [Option.some.injEq, Prod.mk.injEq] at H
      obtain ⟨rfl, rfl⟩ := H
      go_wp2
      go_ret2
      exact ⟨_, by rfl, by exact Kd.R_nil _ _ _ _ _, HB.out⟩
     ·replace c8 := Bool.eq_false_iff.mpr c8
      subst c8
      have H1 : (if 1 ≤ (a0.size : Int) then ((q2h.f kj3 (a0.extract 1 a0.size) (⟨#[47]⟩ : ByteArray)).bind fun t391 => (if (t391.length : Int) > 6 then (some (([] : List ByteArray), 2)) else (qn.l0 kj3 t391 t391 (t391.length : Int) 0))) else (none)) = some (r1, r2) := by rw [if_neg (show ¬ (false = true) by decide)] at H; exact H
      clear H
      have H := H1
      clear H1
      replace H := ino H
      obtain ⟨c9, H⟩ := H
      have c9b0 := eq_true c9
      have c9b1 : decide (1 ≤ (a0.size : Int)) = true := decide_eq_true c9
      clear c9
      replace H := zbs H
      obtain ⟨t391, A10, H⟩ := H
      by_cases c11 : (t391.length : Int) > 6
      ·rw [if_pos c11] at H
       have c11b0 : decide (6 < (t391.length : Int)) = true := decide_eq_true c11
       have c11b1 : decide (6 < t391.length) = true := decide_eq_true (by omega)
       clear c11
       simp only [Option.some.injEq, Prod.mk.injEq] at H
       obtain ⟨rfl, rfl⟩ := H
       go_wp2_with (((with_reducible refine gate_callee (f := 238) rfl ?_); refine goesL_ (some 22) rfl rfl Tryz.func238 (by kernel_rfl) rfl #[.string (a0.extract 1 a0.size), .string (⟨#[47]⟩ : ByteArray)] rfl (by (try simp only [List.map_toArray, List.map_cons, List.map_nil]); rfl) ?_; (with_reducible refine (q2h.calls kj3 (a0.extract 1 a0.size) (⟨#[47]⟩ : ByteArray) t391 _ A10.out).mono ?_); rintro e w12 ⟨v392, rfl, ho0, hb⟩; refine ⟨_, rfl, ?_⟩; have HO393 := Am (Kd.R_lower ho0 (below_size HB.out)); replace HB := Am (below_step HB.out hb); (try clear hb); (try clear ho0); obtain ⟨Ao13, co13, eo13⟩ := Kd.R_slice HO393.out; subst eo13))
       go_ret2
       exact ⟨_, by rfl, by exact Kd.R_nil _ _ _ _ _, HB.out⟩
      ·rw [if_neg c11] at H
       have c11b0 : decide (6 < (t391.length : Int)) = false := decide_eq_false c11
       have c11b1 : decide (6 < t391.length) = false := decide_eq_false (by omega)
       clear c11
       have H' := Am H
       clear H
       go_wp2_with (((with_reducible refine gate_callee (f := 238) rfl ?_); refine goesL_ (some 22) rfl rfl Tryz.func238 (by kernel_rfl) rfl #[.string (a0.extract 1 a0.size), .string (⟨#[47]⟩ : ByteArray)] rfl (by (try simp only [List.map_toArray, List.map_cons, List.map_nil]); rfl) ?_; (with_reducible refine (q2h.calls kj3 (a0.extract 1 a0.size) (⟨#[47]⟩ : ByteArray) t391 _ A10.out).mono ?_); rintro e w14 ⟨v392, rfl, ho0, hb⟩; refine ⟨_, rfl, ?_⟩; have HO393 := Am (Kd.R_lower ho0 (below_size HB.out)); replace HB := Am (below_step HB.out hb); (try clear hb); (try clear ho0); obtain ⟨Ao15, co15, eo15⟩ := Kd.R_slice HO393.out; subst eo15))
       go_loopg [28] kj3 (fun kq v28 w' => ∃ (x28_2 : Int), v28 = .int .i64 x28_2 ∧ Aside0 (qn.l0 kq t391 t391 (t391.length : Int) x28_2 = some (r1, r2)) ∧ Aside0 (kq ≤ kj3) ∧ Aside0 (Kd.R Kd.string 9 w' w.heap.size (fun _ => True) (.slice Ao15 t391.length co15) t391) ∧ Aside0 (Kd.R Kd.string 9 w' w.heap.size (fun _ => True) (.slice Ao15 t391.length co15) t391) ∧ Aside0 (Below w.heap.size w w'))
       case atStart => exact ⟨(0), (by rfl), H', ⟨Nat.le_refl _⟩, ⟨by exact HO393.out⟩, ⟨by exact HO393.out⟩, ⟨HB.out⟩⟩
       case round =>
        clear H'
        try clear c9b0
        try clear c9b1
        try clear c11b0
        try clear c11b1
        obtain ⟨x28_2, rfl, HA, HK2, HO_4, HO_26, HB⟩ := hrel
        cases gk with
        | zero => exact absurd HA.out (by simp [qn.l0])
        | succ k2 =>
         have H := HA.out
         clear HA
         simp only [qn.l0] at H
         by_cases c16 : x28_2 < (t391.length : Int)
         ·rw [if_pos c16] at H
          have c16b0 : decide (x28_2 < (t391.length : Int)) = true := decide_eq_true c16
          clear c16
          replace H := ino H
          obtain ⟨c17, H⟩ := H
          have c17b0 : decide (0 ≤ x28_2) = true := decide_eq_true c17
          clear c17
          replace H := ino H
          obtain ⟨c18, H⟩ := H
          have c18b0 : decide (x28_2 < (t391.length : Int)) = true := decide_eq_true c18
          clear c18
          replace H := zbs H
          obtain ⟨t395, A19, H⟩ := H
          by_cases c20 : t395 = 0
          ·rw [if_pos c20] at H
           have c20b0 : (t395 == 0) = true := beq_iff_eq.mpr c20
           have c20b1 : (t395 != 0) = false := bne_eq_false_iff_eq.mpr c20
           clear c20
           have H' := Am H
           clear H
           have p394 : 0 ≤ (x28_2 : Int) := od (by assumption)
           have q394 : x28_2 < (t391.length : Int) := od (by assumption)
           obtain ⟨ad394, e394, hx394_0⟩ := Kd.at_string (Kd.R_reads' HO_26.out).2.2 x28_2 p394 q394
           cases e394
           replace p394 := eq_true p394
           replace q394 := eq_true q394
           go_wp2_with (((with_reducible refine gate_callee (f := 239) rfl ?_); refine goesL_ (some 33) rfl rfl Tryz.func239 (by kernel_rfl) rfl #[.string (rdOf ByteArray.empty t391 x28_2)] rfl (by (try simp only [List.map_toArray, List.map_cons, List.map_nil]); rfl) ?_; (with_reducible refine (qi.calls k2 (rdOf ByteArray.empty t391 x28_2) t395 _ A19.out).mono ?_); rintro e w' ⟨rfl, ⟨nd, rfl⟩⟩; refine ⟨_, rfl, ?_⟩))
           go_roundg k2
           case measure => have := HJ3.out; have := HK2.out; omega
           case rel => exact ⟨(wrap64 (x28_2 + 1)), (by rfl), H', ⟨by have := HJ3.out; have := HK2.out; omega⟩, ⟨by (with_reducible repeat (apply Kd.R_drewN)); exact HO_4.out⟩, ⟨by (with_reducible repeat (apply Kd.R_drewN)); exact HO_26.out⟩, ⟨by repeat ((with_reducible first | exact HB.out | apply pw_below_drewN))⟩⟩
          ·rw [if_neg c20] at H
           have c20b0 : (t395 == 0) = false := beq_eq_false_iff_ne.mpr c20
           have c20b1 : (t395 != 0) = true := bne_iff_ne.mpr c20
           simp only [Option.some.injEq, Prod.mk.injEq] at H
           obtain ⟨rfl, rfl⟩ := H
           have p394 : 0 ≤ (x28_2 : Int) := od (by assumption)
           have q394 : x28_2 < (t391.length : Int) := od (by assumption)
           obtain ⟨ad394, e394, hx394_0⟩ := Kd.at_string (Kd.R_reads' HO_26.out).2.2 x28_2 p394 q394
           cases e394
           replace p394 := eq_true p394
           replace q394 := eq_true q394
           go_wp2_with (((with_reducible refine gate_callee (f := 239) rfl ?_); refine goesL_ (some 33) rfl rfl Tryz.func239 (by kernel_rfl) rfl #[.string (rdOf ByteArray.empty t391 x28_2)] rfl (by (try simp only [List.map_toArray, List.map_cons, List.map_nil]); rfl) ?_; (with_reducible refine (qi.calls k2 (rdOf ByteArray.empty t391 x28_2) t395 _ A19.out).mono ?_); rintro e w' ⟨rfl, ⟨nd, rfl⟩⟩; refine ⟨_, rfl, ?_⟩))
           go_ret2
           exact ⟨_, by rfl, by exact Kd.R_nil _ _ _ _ _, by repeat ((with_reducible first | exact HB.out | apply pw_below_drewN))⟩
         ·rw [if_neg c16] at H
          have c16b0 : decide (x28_2 < (t391.length : Int)) = false := decide_eq_false c16
          clear c16
          simp only [Option.some.injEq, Prod.mk.injEq] at H
          obtain ⟨rfl, rfl⟩ := H
          go_wp2
          go_ret2
          exact ⟨_, by rfl, by exact HO_4.out, HB.out⟩
end Go.Proofs.YtafhjhdohclchaaGreatDoor.G
namespace Go.Proofs.YtafhjhdohclchaaGreatDoor.G
open Go.RowKit Go.Proofs.YtafhjhdohclchaaGreatDoorW.PrintWords Go.Proofs.YtafhjhdohclchaaGreatDoorW.PrintLast Go.Proofs.YtafhjhdohclchaaGreatDoorW.PrintMore
attribute [local go_sem] min2_int min_two
attribute [local go_sem high] str_leq
attribute [local go_sem] binOp_string_geq
def q2.f (k : Nat) (s0_0 : List (S86)) (s0_1 : List (List Int)) (a1 : ByteArray) : Option (Int × Int) := (qn.f k a1).bind fun bt402 => (if bt402.2 = 0 then ((q3.f k s0_0 s0_1 bt402.1).bind fun bt406 => (some (bt406.1, bt406.2))) else (some (0, bt402.2)))
theorem q2.mono : ∀ a0 a1 a2 k, LeO (q2.f k a0 a1 a2) (q2.f (k + 1) a0 a1 a2) := by
 intro a0 a1 a2 k
 unfold q2.f
 repeat' first | (with_reducible exact q3.mono _ _ _ _) | (with_reducible exact qn.mono _ _) | (with_reducible exact LeO.refl _) | (with_reducible refine LeO.ite ?_ ?_) | (with_reducible refine LeO.bind ?_ (fun _ => ?_))
set_option maxHeartbeats 8000000 in
set_option maxRecDepth 100000 in
theorem q2.calls (k : Nat) (g : Nat) (s0_0 : List (S86)) (s0_1 : List (List Int)) (a1 : ByteArray) (r1 : Int) (r2 : Int) (w0 w : World) (hI : IsS28 w0 w g s0_0 s0_1) (hB : Below w0.heap.size w0 w) (h : q2.f k s0_0 s0_1 a1 = some (r1, r2)) :
  Calls Tryz.prog 116 #[.pointer (some ⟨g, 0, none⟩), .string a1] w fun e w' => e = .returned (.tuple #[.int .i64 r1, .int .i64 r2]) ∧ IsS28 w0 w' g s0_0 s0_1 ∧ Below w0.heap.size w0 w' ∧ KeepBut w w' g none := by
 have HI0 := Am hI
 have HK := Am (KeepBut.refl w g none)
 have HL := Am hB.size
 clear hI
 have HW0 := Am hB.size
 have HB := Am hB
 clear hB
 have H : ((qn.f k a1).bind fun bt402 => (if bt402.2 = 0 then ((q3.f k s0_0 s0_1 bt402.1).bind fun bt406 => (some (bt406.1, bt406.2))) else (some (0, bt402.2)))) = some (r1, r2) := h
 clear h
 replace H := Option.bind_eq_some_iff.mp H
 obtain ⟨⟨t402, t403⟩, A30, H⟩ := H
 replace H : (if t403 = 0 then ((q3.f k s0_0 s0_1 t402).bind fun bt406 => (some (bt406.1, bt406.2))) else (some (0, t403))) = some (r1, r2) := H
 have A3 := Am A30
 clear A30
 by_cases c4 : t403 = 0
 ·rw [if_pos c4] at H
  have c4b0 : (t403 == 0) = true := beq_iff_eq.mpr c4
  have c4b1 : (t403 != 0) = false := bne_eq_false_iff_eq.mpr c4
  clear c4
  replace H := Option.bind_eq_some_iff.mp H
  obtain ⟨⟨t406, t407⟩, A50, H⟩ := H
  replace H : (some (t406, t407)) = some (r1, r2) := H
  have A5 := Am A50
  clear A50
  simp only [Option.some.injEq, Prod.mk.injEq] at H
  obtain ⟨rfl, rfl⟩ := H
  go_enter Tryz.func116, Tryz.ntmps116
  go_wp2_with (first | ((with_reducible refine gate_callee (f := 187) rfl ?_); refine goesL_ (some 10) rfl rfl Tryz.func187 (by kernel_rfl) rfl #[.string a1] rfl (by (try simp only [List.map_toArray, List.map_cons, List.map_nil]); rfl) ?_; (with_reducible refine (qn.calls k a1 t402 t403 _ A3.out).mono ?_); rintro e w6 ⟨v404, rfl, ho0, hb⟩; refine ⟨_, rfl, ?_⟩; have HO405 := Am (Kd.R_lower ho0 (keep_size (w := w) (g := g) (row := none) HK.out)); replace HI0 := Am (IsS28.below HI0.out hb); replace HK := Am (KeepBut.trans HK.out (KeepBut.of_below hb g none) (.inl rfl)); replace HB := Am (below_step HB.out hb); (try clear hb); (try clear ho0); obtain ⟨Ao7, co7, eo7⟩ := Kd.R_slice HO405.out; subst eo7) | ((with_reducible refine gate_callee (f := 188) rfl ?_); refine goesL_ (some 18) rfl rfl Tryz.func188 (by kernel_rfl) rfl #[.pointer (some ⟨g, 0, none⟩), .slice Ao7 t402.length co7] rfl (by (try simp only [List.map_toArray, List.map_cons, List.map_nil]); rfl) ?_; (with_reducible refine (q3.calls k g s0_0 s0_1 _ _ t402 t406 t407 w0 _ ?side1 ?side2 ?side3 ?side4 ?side5 A5.out).mono ?_); (case side1 => repeat ((with_reducible exact HI0.out))); (case side2 => repeat ((with_reducible exact HB.out))); (case side3 => repeat (exact (Kd.R_reads' HO405.out).2.2)); (case side4 => exact (Kd.R_reads' HO405.out).2.1); (case side5 => exact far_slice (IsS28.own_ne HI0.out HO405.out (by decide))); rintro e w8 ⟨rfl, hi, hb, hk⟩; refine ⟨_, rfl, ?_⟩; replace HO405 := Am (Kd.R_mono (Kd.R_keep (IsS28.apart (show IsS28 w0 _ g s0_0 s0_1 from HI0.out) HO405.out (by decide)) hk (fun _ h => h.2)) (fun _ h => h.1)); replace HK := Am (KeepBut.trans HK.out hk (.inl rfl)); replace HB := Am hb; replace HI0 := Am hi; (try clear hb); (try clear hk); (try clear hi)))
  go_ret2
  exact ⟨by rfl, HI0.out, HB.out, HK.out⟩
 ·rw [if_neg c4] at H
  have c4b0 : (t403 == 0) = false := beq_eq_false_iff_ne.mpr c4
  have c4b1 : (t403 != 0) = true := bne_iff_ne.mpr c4
  simp only [Option.some.injEq, Prod.mk.injEq] at H
  obtain ⟨rfl, rfl⟩ := H
  go_enter Tryz.func116, Tryz.ntmps116
  go_wp2_with (((with_reducible refine gate_callee (f := 187) rfl ?_); refine goesL_ (some 10) rfl rfl Tryz.func187 (by kernel_rfl) rfl #[.string a1] rfl (by (try simp only [List.map_toArray, List.map_cons, List.map_nil]); rfl) ?_; (with_reducible refine (qn.calls k a1 t402 t403 _ A3.out).mono ?_); rintro e w9 ⟨v404, rfl, ho0, hb⟩; refine ⟨_, rfl, ?_⟩; have HO405 := Am (Kd.R_lower ho0 (keep_size (w := w) (g := g) (row := none) HK.out)); replace HI0 := Am (IsS28.below HI0.out hb); replace HK := Am (KeepBut.trans HK.out (KeepBut.of_below hb g none) (.inl rfl)); replace HB := Am (below_step HB.out hb); (try clear hb); (try clear ho0)))
  go_ret2
  exact ⟨by rfl, HI0.out, HB.out, HK.out⟩
def q1.l0 : Nat → Int → List ByteArray → Int → Int → List (S86) → List (List Int) → Option (ByteArray × Int)
 | 0, _, _, _, _, _, _ => none
 | k + 1, x1, x22, x23, x24, x1000, x1001 => if x24 < x23 then (if 0 ≤ x24 then (if x24 < (x22.length : Int) then ((q2.f k x1000 x1001 (rdOf ByteArray.empty x22 x24)).bind fun bt826 => (if bt826.1 = x1 then (some (rdOf ByteArray.empty x22 x24, 0)) else (q1.l0 k x1 x22 x23 (wrap64 (x24 + 1)) x1000 x1001))) else (none)) else (none)) else (some ((⟨#[]⟩ : ByteArray), 4))
def q1.f (k : Nat) (s0_0 : List (S86)) (s0_1 : List (List Int)) (a1 : Int) : Option (ByteArray × Int) := (q4.f s0_0).bind fun t820 => ((qr.f a1 0 (wrap64 (t820 - 1))).bind fun t821 => (if t821 = true then (if a1 = 0 then (some ((⟨#[47]⟩ : ByteArray), 0)) else ((impl_Fs_paths.f k s0_0 s0_1).bind fun t822 => (q1.l0 k a1 t822 (t822.length : Int) 0 s0_0 s0_1))) else (some ((⟨#[]⟩ : ByteArray), 3))))
theorem q1.mono_l : ∀ k, (∀ y0 y1 y2 y3 y4 y5, LeO (q1.l0 k y0 y1 y2 y3 y4 y5) (q1.l0 (k + 1) y0 y1 y2 y3 y4 y5))
 | 0 => fun _ _ _ _ _ _ r h => by simp [q1.l0] at h
 | k + 1 => by
  have ih0 := q1.mono_l k
  ·intro y0 y1 y2 y3 y4 y5
   unfold q1.l0
   repeat' first | (with_reducible exact ih0 _ _ _ _ _ _) | (with_reducible exact q2.mono _ _ _ _) | (with_reducible exact LeO.refl _) | (with_reducible refine LeO.ite ?_ ?_) | (with_reducible refine LeO.bind ?_ (fun _ => ?_))
theorem q1.mono : ∀ a0 a1 a2 k, LeO (q1.f k a0 a1 a2) (q1.f (k + 1) a0 a1 a2) := by
 intro a0 a1 a2 k
 have ih0 := q1.mono_l k
 unfold q1.f
 repeat' first | (with_reducible exact ih0 _ _ _ _ _ _) | (with_reducible exact impl_Fs_paths.mono _ _ _) | (with_reducible exact LeO.refl _) | (with_reducible refine LeO.ite ?_ ?_) | (with_reducible refine LeO.bind ?_ (fun _ => ?_))
set_option maxHeartbeats 8000000 in
set_option maxRecDepth 100000 in
theorem q1.calls (k : Nat) (g : Nat) (s0_0 : List (S86)) (s0_1 : List (List Int)) (a1 : Int) (r1 : ByteArray) (r2 : Int) (w0 w : World) (hI : IsS28 w0 w g s0_0 s0_1) (hB : Below w0.heap.size w0 w) (h : q1.f k s0_0 s0_1 a1 = some (r1, r2)) :
  Calls Tryz.prog 64 #[.pointer (some ⟨g, 0, none⟩), .int .i64 a1] w fun e w' => e = .returned (.tuple #[.string r1, .int .i64 r2]) ∧ IsS28 w0 w' g s0_0 s0_1 ∧ Below w0.heap.size w0 w' ∧ KeepBut w w' g none := by
 have HI0 := Am hI
 have HK := Am (KeepBut.refl w g none)
 have HL := Am hB.size
 clear hI
 have HW0 := Am hB.size
 have HB := Am hB
 clear hB
 have H : ((q4.f s0_0).bind fun t820 => ((qr.f a1 0 (wrap64 (t820 - 1))).bind fun t821 => (if t821 = true then (if a1 = 0 then (some ((⟨#[47]⟩ : ByteArray), 0)) else ((impl_Fs_paths.f k s0_0 s0_1).bind fun t822 => (q1.l0 k a1 t822 (t822.length : Int) 0 s0_0 s0_1))) else (some ((⟨#[]⟩ : ByteArray), 3))))) = some (r1, r2) := h
 clear h
 replace H := zbs H
 obtain ⟨t820, A3, H⟩ := H
 replace H := zbs H
 obtain ⟨t821, A4, H⟩ := H
 by_cases c5 : t821 = true
 ·subst c5
  have H1 : (if a1 = 0 then (some ((⟨#[47]⟩ : ByteArray), 0)) else ((impl_Fs_paths.f k s0_0 s0_1).bind fun t822 => (q1.l0 k a1 t822 (t822.length : Int) 0 s0_0 s0_1))) = some (r1, r2) := by rw [if_pos rfl] at H; exact H
  clear H
  have H := H1
  clear H1
  by_cases c6 : a1 = 0
  ·rw [if_pos c6] at H
   have c6b0 : (a1 == 0) = true := beq_iff_eq.mpr c6
   have c6b1 : (a1 != 0) = false := bne_eq_false_iff_eq.mpr c6
   clear c6
   simp only [Option.some.injEq, Prod.mk.injEq] at H
   obtain ⟨rfl, rfl⟩ := H
   obtain ⟨ASz7_0, cSz7_0, ASz7_1, cSz7_1, HGz7, hgz7, HSz7_0, HSz7_1⟩ := HI0.out
   have hcz7_0 := cellS28_0 HGz7
   have hcz7_1 := cellS28_1 HGz7
   clear HGz7 hgz7
   go_enter Tryz.func64, Tryz.ntmps64
   go_wp2_with (first | ((with_reducible refine gate_callee (f := 132) rfl ?_); refine goesL_ (some 15) rfl rfl Tryz.func132 (by kernel_rfl) rfl #[.slice ASz7_0 s0_0.length cSz7_0] rfl (by (try simp only [List.map_toArray, List.map_cons, List.map_nil]); rfl) ?_; (with_reducible refine (q4.calls _ _ s0_0 t820 _ ?side1 ?side2 A3.out).mono ?_); (case side1 => exact Kd.C_below HSz7_0.1 HB.out); (case side2 => exact HSz7_0.2); rintro e w' ⟨rfl, ⟨nd, rfl⟩⟩; refine ⟨_, rfl, ?_⟩) | ((with_reducible refine gate_callee (f := 69) rfl ?_); refine goesL_ (some 17) rfl rfl Tryz.func69 (by kernel_rfl) rfl #[.int .i64 a1, .int .i64 0, .int .i64 (wrap64 (t820 - 1))] rfl (by (try simp only [List.map_toArray, List.map_cons, List.map_nil]); rfl) ?_; (with_reducible refine (qr.calls a1 0 (wrap64 (t820 - 1)) true _ A4.out).mono ?_); rintro e w' ⟨rfl, ⟨nd, rfl⟩⟩; refine ⟨_, rfl, ?_⟩))
   go_ret2
   exact ⟨by rfl, by repeat ((with_reducible first | exact HI0.out | apply IsS28.drewN)), by repeat ((with_reducible first | exact HB.out | apply pw_below_drewN)), by repeat ((with_reducible first | exact HK.out | apply keep_drewN))⟩
  ·rw [if_neg c6] at H
   have c6b0 : (a1 == 0) = false := beq_eq_false_iff_ne.mpr c6
   have c6b1 : (a1 != 0) = true := bne_iff_ne.mpr c6
   replace H := zbs H
   obtain ⟨t822, A8, H⟩ := H
   have H' := Am H
   clear H
   obtain ⟨ASz9_0, cSz9_0, ASz9_1, cSz9_1, HGz9, hgz9, HSz9_0, HSz9_1⟩ := HI0.out
   have hcz9_0 := cellS28_0 HGz9
   have hcz9_1 := cellS28_1 HGz9
   clear HGz9 hgz9
   go_enter Tryz.func64, Tryz.ntmps64
   go_wp2_with (first | ((with_reducible refine gate_callee (f := 132) rfl ?_); refine goesL_ (some 15) rfl rfl Tryz.func132 (by kernel_rfl) rfl #[.slice ASz9_0 s0_0.length cSz9_0] rfl (by (try simp only [List.map_toArray, List.map_cons, List.map_nil]); rfl) ?_; (with_reducible refine (q4.calls _ _ s0_0 t820 _ ?side1 ?side2 A3.out).mono ?_); (case side1 => exact Kd.C_below HSz9_0.1 HB.out); (case side2 => exact HSz9_0.2); rintro e w' ⟨rfl, ⟨nd, rfl⟩⟩; refine ⟨_, rfl, ?_⟩) | ((with_reducible refine gate_callee (f := 69) rfl ?_); refine goesL_ (some 17) rfl rfl Tryz.func69 (by kernel_rfl) rfl #[.int .i64 a1, .int .i64 0, .int .i64 (wrap64 (t820 - 1))] rfl (by (try simp only [List.map_toArray, List.map_cons, List.map_nil]); rfl) ?_; (with_reducible refine (qr.calls a1 0 (wrap64 (t820 - 1)) true _ A4.out).mono ?_); rintro e w' ⟨rfl, ⟨nd, rfl⟩⟩; refine ⟨_, rfl, ?_⟩) | ((with_reducible refine gate_callee (f := 133) rfl ?_); refine goesL_ (some 22) rfl rfl Tryz.func133 (by kernel_rfl) rfl #[.pointer (some ⟨g, 0, none⟩)] rfl (by (try simp only [List.map_toArray, List.map_cons, List.map_nil]); rfl) ?_; (with_reducible refine (impl_Fs_paths.calls k g s0_0 s0_1 t822 w0 _ ?side1 ?side2 A8.out).mono ?_); (case side1 => repeat ((with_reducible first | exact HI0.out | apply IsS28.drewN))); (case side2 => repeat ((with_reducible first | exact HB.out | apply pw_below_drewN))); rintro e w10 ⟨v823, rfl, ho0, hi, hb, hk⟩; refine ⟨_, rfl, ?_⟩; have HO824 := Am (Kd.R_lower ho0 (keep_size (w := w) (g := g) (row := none) (by repeat ((with_reducible first | exact HK.out | apply keep_drewN))))); replace HK := Am (KeepBut.trans (by repeat ((with_reducible first | exact HK.out | apply keep_drewN))) hk (.inl rfl)); replace HB := Am hb; replace HI0 := Am hi; (try clear hb); (try clear hk); (try clear hi); (try clear ho0); obtain ⟨Ao11, co11, eo11⟩ := Kd.R_slice HO824.out; subst eo11))
   go_loopg [24] k (fun kq v24 w' => ∃ (x24_1 : Int), v24 = .int .i64 x24_1 ∧ Aside0 (q1.l0 kq a1 t822 (t822.length : Int) x24_1 s0_0 s0_1 = some (r1, r2)) ∧ Aside0 (kq ≤ k) ∧ Aside0 (Kd.R Kd.string 9 w' w.heap.size (fun _ => True) (.slice Ao11 t822.length co11) t822) ∧ Aside0 (IsS28 w0 w' g s0_0 s0_1) ∧ Aside0 (KeepBut w w' g none) ∧ Aside0 (Below w0.heap.size w0 w'))
   case atStart => exact ⟨(0), (by rfl), H', ⟨Nat.le_refl _⟩, ⟨by exact HO824.out⟩, ⟨HI0.out⟩, ⟨HK.out⟩, ⟨HB.out⟩⟩
   case round =>
    clear H'
    try clear c6
    try clear c6b0
    try clear c6b1
    try clear hcz9_0
    try clear hcz9_1
    obtain ⟨x24_1, rfl, HA, HK1, HO_22, HI0, HK, HB⟩ := hrel
    cases gk with
    | zero => exact absurd HA.out (by simp [q1.l0])
    | succ k1 =>
     have H := HA.out
     clear HA
     simp only [q1.l0] at H
     by_cases c12 : x24_1 < (t822.length : Int)
     ·rw [if_pos c12] at H
      have c12b0 : decide (x24_1 < (t822.length : Int)) = true := decide_eq_true c12
      clear c12
      replace H := ino H
      obtain ⟨c13, H⟩ := H
      have c13b0 : decide (0 ≤ x24_1) = true := decide_eq_true c13
      clear c13
      replace H := ino H
      obtain ⟨c14, H⟩ := H
      have c14b0 : decide (x24_1 < (t822.length : Int)) = true := decide_eq_true c14
      clear c14
      replace H := Option.bind_eq_some_iff.mp H
      obtain ⟨⟨t826, t827⟩, A150, H⟩ := H
      replace H : (if t826 = a1 then (some (rdOf ByteArray.empty t822 x24_1, 0)) else (q1.l0 k1 a1 t822 (t822.length : Int) (wrap64 (x24_1 + 1)) s0_0 s0_1)) = some (r1, r2) := H
      have A15 := Am A150
      clear A150
      by_cases c16 : t826 = a1
      ·rw [if_pos c16] at H
       have c16b0 : (t826 == a1) = true := beq_iff_eq.mpr c16
       have c16b1 : (t826 != a1) = false := bne_eq_false_iff_eq.mpr c16
       clear c16
       simp only [Option.some.injEq, Prod.mk.injEq] at H
       obtain ⟨rfl, rfl⟩ := H
       have p825 : 0 ≤ (x24_1 : Int) := od (by assumption)
       have q825 : x24_1 < (t822.length : Int) := od (by assumption)
       obtain ⟨ad825, e825, hx825_0⟩ := Kd.at_string (Kd.R_reads' HO_22.out).2.2 x24_1 p825 q825
       cases e825
       replace p825 := eq_true p825
       replace q825 := eq_true q825
       go_wp2_with (((with_reducible refine gate_callee (f := 116) rfl ?_); refine goesL_ (some 31) rfl rfl Tryz.func116 (by kernel_rfl) rfl #[.pointer (some ⟨g, 0, none⟩), .string (rdOf ByteArray.empty t822 x24_1)] rfl (by (try simp only [List.map_toArray, List.map_cons, List.map_nil]); rfl) ?_; (with_reducible refine (q2.calls k1 g s0_0 s0_1 (rdOf ByteArray.empty t822 x24_1) t826 t827 w0 _ ?side1 ?side2 A15.out).mono ?_); (case side1 => repeat ((with_reducible exact HI0.out))); (case side2 => repeat ((with_reducible exact HB.out))); rintro e w17 ⟨rfl, hi, hb, hk⟩; refine ⟨_, rfl, ?_⟩; replace HO_22 := Am (Kd.R_mono (Kd.R_keep (IsS28.apart (show IsS28 w0 _ g s0_0 s0_1 from HI0.out) HO_22.out (by decide)) hk (fun _ h => h.2)) (fun _ h => h.1)); replace HK := Am (KeepBut.trans HK.out hk (.inl rfl)); replace HB := Am hb; replace HI0 := Am hi; (try clear hb); (try clear hk); (try clear hi)))
       go_ret2
       exact ⟨by rfl, HI0.out, HB.out, HK.out⟩
      ·rw [if_neg c16] at H
       have c16b0 : (t826 == a1) = false := beq_eq_false_iff_ne.mpr c16
       have c16b1 : (t826 != a1) = true := bne_iff_ne.mpr c16
       have H' := Am H
       clear H
       have p825 : 0 ≤ (x24_1 : Int) := od (by assumption)
       have q825 : x24_1 < (t822.length : Int) := od (by assumption)
       obtain ⟨ad825, e825, hx825_0⟩ := Kd.at_string (Kd.R_reads' HO_22.out).2.2 x24_1 p825 q825
       cases e825
       replace p825 := eq_true p825
       replace q825 := eq_true q825
       go_wp2_with (((with_reducible refine gate_callee (f := 116) rfl ?_); refine goesL_ (some 31) rfl rfl Tryz.func116 (by kernel_rfl) rfl #[.pointer (some ⟨g, 0, none⟩), .string (rdOf ByteArray.empty t822 x24_1)] rfl (by (try simp only [List.map_toArray, List.map_cons, List.map_nil]); rfl) ?_; (with_reducible refine (q2.calls k1 g s0_0 s0_1 (rdOf ByteArray.empty t822 x24_1) t826 t827 w0 _ ?side1 ?side2 A15.out).mono ?_); (case side1 => repeat ((with_reducible exact HI0.out))); (case side2 => repeat ((with_reducible exact HB.out))); rintro e w18 ⟨rfl, hi, hb, hk⟩; refine ⟨_, rfl, ?_⟩; replace HO_22 := Am (Kd.R_mono (Kd.R_keep (IsS28.apart (show IsS28 w0 _ g s0_0 s0_1 from HI0.out) HO_22.out (by decide)) hk (fun _ h => h.2)) (fun _ h => h.1)); replace HK := Am (KeepBut.trans HK.out hk (.inl rfl)); replace HB := Am hb; replace HI0 := Am hi; (try clear hb); (try clear hk); (try clear hi)))
       go_roundg k1
       case measure => have := HK1.out; omega
       case rel => exact ⟨(wrap64 (x24_1 + 1)), (by rfl), H', ⟨by have := HK1.out; omega⟩, ⟨by exact HO_22.out⟩, ⟨HI0.out⟩, ⟨HK.out⟩, ⟨HB.out⟩⟩
     ·rw [if_neg c12] at H
      have c12b0 : decide (x24_1 < (t822.length : Int)) = false := decide_eq_false c12
      clear c12
      simp only [Option.some.injEq, Prod.mk.injEq] at H
      obtain ⟨rfl, rfl⟩ := H
      go_wp2
      go_ret2
      exact ⟨by rfl, HI0.out, HB.out, HK.out⟩
 ·replace c5 := Bool.eq_false_iff.mpr c5
  subst c5
  have H1 : (some ((⟨#[]⟩ : ByteArray), 3)) = some (r1, r2) := by rw [if_neg (show ¬ (false = true) by decide)] at H; exact H
  clear H
  have H := H1
  clear H1
  simp only [Option.some.injEq, Prod.mk.injEq] at H
  obtain ⟨rfl, rfl⟩ := H
  obtain ⟨ASz19_0, cSz19_0, ASz19_1, cSz19_1, HGz19, hgz19, HSz19_0, HSz19_1⟩ := HI0.out
  have hcz19_0 := cellS28_0 HGz19
  have hcz19_1 := cellS28_1 HGz19
  clear HGz19 hgz19
  go_enter Tryz.func64, Tryz.ntmps64
  go_wp2_with (first | ((with_reducible refine gate_callee (f := 132) rfl ?_); refine goesL_ (some 15) rfl rfl Tryz.func132 (by kernel_rfl) rfl #[.slice ASz19_0 s0_0.length cSz19_0] rfl (by (try simp only [List.map_toArray, List.map_cons, List.map_nil]); rfl) ?_; (with_reducible refine (q4.calls _ _ s0_0 t820 _ ?side1 ?side2 A3.out).mono ?_); (case side1 => exact Kd.C_below HSz19_0.1 HB.out); (case side2 => exact HSz19_0.2); rintro e w' ⟨rfl, ⟨nd, rfl⟩⟩; refine ⟨_, rfl, ?_⟩) | ((with_reducible refine gate_callee (f := 69) rfl ?_); refine goesL_ (some 17) rfl rfl Tryz.func69 (by kernel_rfl) rfl #[.int .i64 a1, .int .i64 0, .int .i64 (wrap64 (t820 - 1))] rfl (by (try simp only [List.map_toArray, List.map_cons, List.map_nil]); rfl) ?_; (with_reducible refine (qr.calls a1 0 (wrap64 (t820 - 1)) false _ A4.out).mono ?_); rintro e w' ⟨rfl, ⟨nd, rfl⟩⟩; refine ⟨_, rfl, ?_⟩))
  go_ret2
  exact ⟨by rfl, by repeat ((with_reducible first | exact HI0.out | apply IsS28.drewN)), by repeat ((with_reducible first | exact HB.out | apply pw_below_drewN)), by repeat ((with_reducible first | exact HK.out | apply keep_drewN))⟩
def q5.f (k : Nat) (l0_0 : List (S86)) (l0_1 : List (List Int)) (a1 : Int) : Option (Int × ByteArray) := (qb.f k l0_0 l0_1).bind fun t830 => (if t830 = 0 then ((q1.f k l0_0 l0_1 a1).bind fun bt831 => (some (bt831.2, bt831.1))) else (some (t830, (⟨#[]⟩ : ByteArray))))
theorem q5.mono : ∀ a0 a1 a2 k, LeO (q5.f k a0 a1 a2) (q5.f (k + 1) a0 a1 a2) := by
 intro a0 a1 a2 k
 unfold q5.f
 repeat' first | (with_reducible exact q1.mono _ _ _ _) | (with_reducible exact qb.mono _ _ _) | (with_reducible exact LeO.refl _) | (with_reducible refine LeO.ite ?_ ?_) | (with_reducible refine LeO.bind ?_ (fun _ => ?_))
set_option maxHeartbeats 8000000 in
set_option maxRecDepth 100000 in
theorem q5.calls (k : Nat) (A0_0 : Option Addr) (c0_0 : Nat) (l0_0 : List (S86)) (A0_1 : Option Addr) (c0_1 : Nat) (l0_1 : List (List Int)) (a1 : Int) (r1 : Int) (r2 : ByteArray) (w : World) (hr0_0 : Kd.C k86 w A0_0 l0_0.length l0_0) (hc0_0 : l0_0.length ≤ c0_0) (hr0_1 : Kd.C (Kd.slice 5 (Kd.int .u8)) w A0_1 l0_1.length l0_1) (hc0_1 : l0_1.length ≤ c0_1) (h : q5.f k l0_0 l0_1 a1 = some (r1, r2)) :
  Calls Tryz.prog 20 #[.agg #[.slice A0_0 l0_0.length c0_0, .slice A0_1 l0_1.length c0_1], .int .i64 a1] w fun e w' => e = .returned (.agg #[.int .i64 r1, .string r2]) ∧ Below w.heap.size w w' := by
 have hu28 := Tryz.underlying28
 have hu48 := Tryz.underlying48
 have HR0_0 := Am hr0_0
 have HC0_0 := Am hc0_0
 clear hr0_0 hc0_0
 have HR0_1 := Am hr0_1
 have HC0_1 := Am hc0_1
 clear hr0_1 hc0_1
 have HB := Am (Below.refl w.heap.size w)
 have H : ((qb.f k l0_0 l0_1).bind fun t830 => (if t830 = 0 then ((q1.f k l0_0 l0_1 a1).bind fun bt831 => (some (bt831.2, bt831.1))) else (some (t830, (⟨#[]⟩ : ByteArray))))) = some (r1, r2) := h
 clear h
 replace H := zbs H
 obtain ⟨t830, A3, H⟩ := H
 by_cases c4 : t830 = 0
 ·rw [if_pos c4] at H
  have c4b0 : (t830 == 0) = true := beq_iff_eq.mpr c4
  have c4b1 : (t830 != 0) = false := bne_eq_false_iff_eq.mpr c4
  clear c4
  replace H := Option.bind_eq_some_iff.mp H
  obtain ⟨⟨t831, t832⟩, A50, H⟩ := H
  replace H : (some (t832, t831)) = some (r1, r2) := H
  have A5 := Am A50
  clear A50
  simp only [Option.some.injEq, Prod.mk.injEq] at H
  obtain ⟨rfl, rfl⟩ := H
  go_enter Tryz.func20, Tryz.ntmps20
  go_wp2_with (first | ((with_reducible refine gate_dst (N := 2) rfl ?_); refine box_event ?hg (N := 2) ?hd (cs := #[.slice A0_0 l0_0.length c0_0, .slice A0_1 l0_1.length c0_1]) (t := 28) ?hr ?_; (case hd => rfl); (case hg => rfl); (case hr => (go_simp; done)); intro gb828 hg w6 hbox hb; have BK828 := Am hbox; have GW828 := Am ((nge hg HB.out)); have GE828 := Am ((nge hg HB.out)); replace HB := Am (below_step HB.out hb); clear hb hbox hg; have HI828 := Am (show IsS28 w w6 gb828 l0_0 l0_1 from ⟨A0_0, c0_0, A0_1, c0_1, BK828.out, GW828.out, ⟨HR0_0.out, HC0_0.out⟩, ⟨HR0_1.out, HC0_1.out⟩⟩)) | ((with_reducible refine gate_dst (N := 4) rfl ?_); refine box_event ?hg (N := 4) ?hd (cs := #[.int .i64 0, .string (⟨#[]⟩ : ByteArray)]) (t := 48) ?hr ?_; (case hd => rfl); (case hg => rfl); (case hr => (go_simp; done)); intro gb829 hg w7 hbox hb; have BK829 := Am hbox; have GW829 := Am ((nge hg HB.out)); have GE829 := Am ((nge hg HB.out)); replace HB := Am (below_step HB.out hb); have NB828_829 := Am ((by rw [hg]; exact Nat.ne_of_lt (IsS28.lt (show IsS28 w _ gb828 l0_0 l0_1 from HI828.out)) : gb828 ≠ gb829)); have NB829_828 := Am ((by rw [hg]; exact Nat.ne_of_gt (IsS28.lt (show IsS28 w _ gb828 l0_0 l0_1 from HI828.out)) : gb829 ≠ gb828)); replace HI828 := Am (IsS28.below HI828.out hb); clear hb hbox hg; obtain ⟨ASz8_0, cSz8_0, ASz8_1, cSz8_1, HGz8, hgz8, HSz8_0, HSz8_1⟩ := HI828.out; have hcz8_0 := cellS28_0 HGz8; have hcz8_1 := cellS28_1 HGz8; clear HGz8 hgz8) | ((with_reducible refine gate_callee (f := 43) rfl ?_); refine goesL_ (some 9) rfl rfl Tryz.func43 (by kernel_rfl) rfl #[.agg #[.slice ASz8_0 l0_0.length cSz8_0, .slice ASz8_1 l0_1.length cSz8_1]] rfl (by (try simp only [List.map_toArray, List.map_cons, List.map_nil]); rfl) ?_; (with_reducible refine (qb.calls k _ _ l0_0 _ _ l0_1 t830 _ ?side1 ?side2 ?side3 ?side4 A3.out).mono ?_); (case side1 => exact Kd.C_below HSz8_0.1 HB.out); (case side2 => exact HSz8_0.2); (case side3 => exact Kd.C_below HSz8_1.1 HB.out); (case side4 => exact HSz8_1.2); rintro e w9 ⟨rfl, hb⟩; refine ⟨_, rfl, ?_⟩; replace HI828 := Am (IsS28.below HI828.out hb); replace BK829 := Am (blk_below BK829.out hb); replace HB := Am (below_step HB.out hb); (try clear hb)) | ((with_reducible refine gate_callee (f := 64) rfl ?_); refine goesL_ (some 16) rfl rfl Tryz.func64 (by kernel_rfl) rfl #[.pointer (some ⟨gb828, 0, none⟩), .int .i64 a1] rfl (by (try simp only [List.map_toArray, List.map_cons, List.map_nil]); rfl) ?_; (with_reducible refine (q1.calls k gb828 l0_0 l0_1 a1 t831 t832 w _ ?side1 ?side2 A5.out).mono ?_); (case side1 => repeat ((with_reducible exact HI828.out))); (case side2 => repeat ((with_reducible exact HB.out))); rintro e w10 ⟨rfl, hi, hb, hk⟩; refine ⟨_, rfl, ?_⟩; replace BK829 := Am (KeepBut.blk hk BK829.out NB829_828.out (by simp)); replace HB := Am hb; replace HI828 := Am hi; (try clear hb); (try clear hk); (try clear hi); have hnb11 := NB829_828.out; have hnc11 := NB828_829.out; obtain ⟨hcz12_0, hcz12_1, hfz12_0, hfz12_1⟩ := cb2 BK829.out))
  refine bodyPost_ret (results_cell_row rfl _ _ gb829 48 #[.int .i64 t832, .string t831] (0, 0) _ rfl (by refine blk_put (cs := #[.int .i64 t832, .string (⟨#[]⟩ : ByteArray)]) ?_ 1 _ rfl; refine blk_put (cs := #[.int .i64 0, .string (⟨#[]⟩ : ByteArray)]) ?_ 0 _ rfl; exact BK829.out) Tryz.underlying48 rfl (by kernel_rfl)) rfl ?_
  exact ⟨by rfl, by repeat ((with_reducible first | exact HB.out | refine below_set ?_ GE829.out))⟩
 ·rw [if_neg c4] at H
  have c4b0 : (t830 == 0) = false := beq_eq_false_iff_ne.mpr c4
  have c4b1 : (t830 != 0) = true := bne_iff_ne.mpr c4
  simp only [Option.some.injEq, Prod.mk.injEq] at H
  obtain ⟨rfl, rfl⟩ := H
  go_enter Tryz.func20, Tryz.ntmps20
  go_wp2_with (first | ((with_reducible refine gate_dst (N := 2) rfl ?_); refine box_event ?hg (N := 2) ?hd (cs := #[.slice A0_0 l0_0.length c0_0, .slice A0_1 l0_1.length c0_1]) (t := 28) ?hr ?_; (case hd => rfl); (case hg => rfl); (case hr => (go_simp; done)); intro gb828 hg w13 hbox hb; have BK828 := Am hbox; have GW828 := Am ((nge hg HB.out)); have GE828 := Am ((nge hg HB.out)); replace HB := Am (below_step HB.out hb); clear hb hbox hg; have HI828 := Am (show IsS28 w w13 gb828 l0_0 l0_1 from ⟨A0_0, c0_0, A0_1, c0_1, BK828.out, GW828.out, ⟨HR0_0.out, HC0_0.out⟩, ⟨HR0_1.out, HC0_1.out⟩⟩)) | ((with_reducible refine gate_dst (N := 4) rfl ?_); refine box_event ?hg (N := 4) ?hd (cs := #[.int .i64 0, .string (⟨#[]⟩ : ByteArray)]) (t := 48) ?hr ?_; (case hd => rfl); (case hg => rfl); (case hr => (go_simp; done)); intro gb829 hg w14 hbox hb; have BK829 := Am hbox; have GW829 := Am ((nge hg HB.out)); have GE829 := Am ((nge hg HB.out)); replace HB := Am (below_step HB.out hb); have NB828_829 := Am ((by rw [hg]; exact Nat.ne_of_lt (IsS28.lt (show IsS28 w _ gb828 l0_0 l0_1 from HI828.out)) : gb828 ≠ gb829)); have NB829_828 := Am ((by rw [hg]; exact Nat.ne_of_gt (IsS28.lt (show IsS28 w _ gb828 l0_0 l0_1 from HI828.out)) : gb829 ≠ gb828)); replace HI828 := Am (IsS28.below HI828.out hb); clear hb hbox hg; obtain ⟨ASz15_0, cSz15_0, ASz15_1, cSz15_1, HGz15, hgz15, HSz15_0, HSz15_1⟩ := HI828.out; have hcz15_0 := cellS28_0 HGz15; have hcz15_1 := cellS28_1 HGz15; clear HGz15 hgz15) | ((with_reducible refine gate_callee (f := 43) rfl ?_); refine goesL_ (some 9) rfl rfl Tryz.func43 (by kernel_rfl) rfl #[.agg #[.slice ASz15_0 l0_0.length cSz15_0, .slice ASz15_1 l0_1.length cSz15_1]] rfl (by (try simp only [List.map_toArray, List.map_cons, List.map_nil]); rfl) ?_; (with_reducible refine (qb.calls k _ _ l0_0 _ _ l0_1 t830 _ ?side1 ?side2 ?side3 ?side4 A3.out).mono ?_); (case side1 => exact Kd.C_below HSz15_0.1 HB.out); (case side2 => exact HSz15_0.2); (case side3 => exact Kd.C_below HSz15_1.1 HB.out); (case side4 => exact HSz15_1.2); rintro e w16 ⟨rfl, hb⟩; refine ⟨_, rfl, ?_⟩; replace HI828 := Am (IsS28.below HI828.out hb); replace BK829 := Am (blk_below BK829.out hb); replace HB := Am (below_step HB.out hb); (try clear hb); have hnb17 := NB829_828.out; have hnc17 := NB828_829.out; obtain ⟨hcz18_0, hcz18_1, hfz18_0, hfz18_1⟩ := cb2 BK829.out))
  refine bodyPost_ret (results_cell_row rfl _ _ gb829 48 #[.int .i64 t830, .string (⟨#[]⟩ : ByteArray)] (0, 0) _ rfl (by refine blk_put (cs := #[.int .i64 t830, .string (⟨#[]⟩ : ByteArray)]) ?_ 1 _ rfl; refine blk_put (cs := #[.int .i64 0, .string (⟨#[]⟩ : ByteArray)]) ?_ 0 _ rfl; exact BK829.out) Tryz.underlying48 rfl (by kernel_rfl)) rfl ?_
  exact ⟨by rfl, by repeat ((with_reducible first | exact HB.out | refine below_set ?_ GE829.out))⟩
def q27.f (s0_0 : List (S86)) (s0_1 : List (List Int)) (a1 : Int) : Option (Bool) := (q1r.f a1 0 (wrap64 ((s0_0.length : Int) - 1))).bind fun t705 => (some t705)
set_option maxHeartbeats 8000000 in
set_option maxRecDepth 100000 in
theorem q27.calls (g : Nat) (s0_0 : List (S86)) (s0_1 : List (List Int)) (a1 : Int) (r : Bool) (w0 w : World) (hI : IsS28 w0 w g s0_0 s0_1) (hB : Below w0.heap.size w0 w) (h : q27.f s0_0 s0_1 a1 = some r) :
  Calls Tryz.prog 58 #[.pointer (some ⟨g, 0, none⟩), .int .i64 a1] w fun e w' => e = .returned (.bool r) ∧ IsS28 w0 w' g s0_0 s0_1 ∧ Below w0.heap.size w0 w' ∧ KeepBut w w' g none := by
 have HI0 := Am hI
 have HK := Am (KeepBut.refl w g none)
 have HL := Am hB.size
 clear hI
 have HW0 := Am hB.size
 have HB := Am hB
 clear hB
 have H : ((q1r.f a1 0 (wrap64 ((s0_0.length : Int) - 1))).bind fun t705 => (some t705)) = some r := h
 clear h
 replace H := zbs H
 obtain ⟨t705, A3, H⟩ := H
 obtain rfl := Option.some.inj H
 obtain ⟨ASz4_0, cSz4_0, ASz4_1, cSz4_1, HGz4, hgz4, HSz4_0, HSz4_1⟩ := HI0.out
 have hcz4_0 := cellS28_0 HGz4
 have hcz4_1 := cellS28_1 HGz4
 clear HGz4 hgz4
 go_enter Tryz.func58, Tryz.ntmps58
 go_wp2_with (((with_reducible refine gate_callee (f := 67) rfl ?_); refine goesL_ (some 12) rfl rfl Tryz.func67 (by kernel_rfl) rfl #[.int .i64 a1, .int .i64 0, .int .i64 (wrap64 ((s0_0.length : Int) - 1))] rfl (by (try simp only [List.map_toArray, List.map_cons, List.map_nil]); rfl) ?_; (with_reducible refine (q1r.calls a1 0 (wrap64 ((s0_0.length : Int) - 1)) t705 _ A3.out).mono ?_); rintro e w' ⟨rfl, ⟨nd, rfl⟩⟩; refine ⟨_, rfl, ?_⟩))
 go_ret
 exact ⟨by rfl, by repeat ((with_reducible first | exact HI0.out | apply IsS28.drewN)), by repeat ((with_reducible first | exact HB.out | apply pw_below_drewN)), by repeat ((with_reducible first | exact HK.out | apply keep_drewN))⟩
def q2a.l0 : Nat → List (S143) → ByteArray → Int → Option (Int)
 | 0, _, _, _ => none
 | k + 1, x0, x1, x5 => if x5 < (x0.length : Int) then (if 0 ≤ x5 then (if ((rd_T143 x0 x5).f0).toList = x1.toList then (some x5) else (q2a.l0 k x0 x1 (wrap64 (x5 + 1)))) else (none)) else (some (-1))
def q2a.f (k : Nat) (l0 : List (S143)) (a1 : ByteArray) : Option (Int) := q2a.l0 k l0 a1 0
theorem q2a.mono_l : ∀ k, (∀ y0 y1 y2, LeO (q2a.l0 k y0 y1 y2) (q2a.l0 (k + 1) y0 y1 y2))
 | 0 => fun _ _ _ r h => by simp [q2a.l0] at h
 | k + 1 => by
  have ih0 := q2a.mono_l k
  ·intro y0 y1 y2
   unfold q2a.l0
   repeat' first | (with_reducible exact ih0 _ _ _) | (with_reducible exact LeO.refl _) | (with_reducible refine LeO.ite ?_ ?_)
theorem q2a.mono : ∀ a0 a1 k, LeO (q2a.f k a0 a1) (q2a.f (k + 1) a0 a1) := by
 intro a0 a1 k
 have ih0 := q2a.mono_l k
 unfold q2a.f
 repeat' (with_reducible exact ih0 _ _ _)
set_option maxHeartbeats 8000000 in
set_option maxRecDepth 100000 in
theorem q2a.calls (k : Nat) (A0 : Option Addr) (c0 : Nat) (l0 : List (S143)) (a1 : ByteArray) (r : Int) (w : World) (hr0 : Kd.C k143 w A0 l0.length l0) (hc0 : l0.length ≤ c0) (h : q2a.f k l0 a1 = some r) :
  Calls Tryz.prog 129 #[.slice A0 l0.length c0, .string a1] w fun e w' => e = .returned (.int .i64 r) ∧ Drawn0 w w' := by
 have HR0 := Am hr0
 have HC0 := Am hc0
 clear hr0 hc0
 have H : (q2a.l0 k l0 a1 0) = some r := h
 clear h
 have H' := Am H
 clear H
 go_enter Tryz.func129, Tryz.ntmps129
 go_wp2
 go_loopg [5] k (fun kq v5 w' => ∃ (x5_1 : Int), v5 = .int .i64 x5_1 ∧ Aside0 (q2a.l0 kq l0 a1 x5_1 = some r) ∧ Aside0 (kq ≤ k) ∧ Drawn0 w w')
 case atStart => exact ⟨(0), (by rfl), H', ⟨Nat.le_refl _⟩, by repeat (exact Drawn0.refl _)⟩
 case round =>
  clear H'
  obtain ⟨x5_1, rfl, HA, HK1, ⟨m1, rfl⟩⟩ := hrel
  cases gk with
  | zero => exact absurd HA.out (by simp [q2a.l0])
  | succ k1 =>
   have H := HA.out
   clear HA
   simp only [q2a.l0] at H
   by_cases c3 : x5_1 < (l0.length : Int)
   ·rw [if_pos c3] at H
    have c3b0 : decide (x5_1 < (l0.length : Int)) = true := decide_eq_true c3
    clear c3
    replace H := ino H
    obtain ⟨c4, H⟩ := H
    have c4b0 : decide (0 ≤ x5_1) = true := decide_eq_true c4
    clear c4
    by_cases c5 : ((rd_T143 l0 x5_1).f0).toList = a1.toList
    ·rw [if_pos c5] at H
     have c5b0 : (((rd_T143 l0 x5_1).f0).toList == a1.toList) = true := beq_iff_eq.mpr c5
     have c5b1 : (((rd_T143 l0 x5_1).f0).toList != a1.toList) = false := bne_eq_false_iff_eq.mpr c5
     clear c5
     obtain rfl := Option.some.inj H
     have p729 : 0 ≤ (x5_1 : Int) := od (by assumption)
     have q729 : x5_1 < (l0.length : Int) := od (by assumption)
     obtain ⟨ad729, e729, hx729_0, hx729_1⟩ := at_T143 HR0.out x5_1 p729 q729
     cases e729
     replace p729 := eq_true p729
     replace q729 := eq_true q729
     go_wp2
     go_ret
     exact ⟨by rfl, by repeat (first | exact Drawn0.refl _ | apply Drawn0.step)⟩
    ·rw [if_neg c5] at H
     have c5b0 : (((rd_T143 l0 x5_1).f0).toList == a1.toList) = false := beq_eq_false_iff_ne.mpr c5
     have c5b1 : (((rd_T143 l0 x5_1).f0).toList != a1.toList) = true := bne_iff_ne.mpr c5
     have H' := Am H
     clear H
     have p729 : 0 ≤ (x5_1 : Int) := od (by assumption)
     have q729 : x5_1 < (l0.length : Int) := od (by assumption)
     obtain ⟨ad729, e729, hx729_0, hx729_1⟩ := at_T143 HR0.out x5_1 p729 q729
     cases e729
     replace p729 := eq_true p729
     replace q729 := eq_true q729
     go_wp2
     go_roundg k1
     case measure => have := HK1.out; omega
     case rel => exact ⟨(wrap64 (x5_1 + 1)), (by rfl), H', ⟨by have := HK1.out; omega⟩, by repeat (first | exact Drawn0.refl _ | apply Drawn0.step)⟩
   ·rw [if_neg c3] at H
    have c3b0 : decide (x5_1 < (l0.length : Int)) = false := decide_eq_false c3
    clear c3
    obtain rfl := Option.some.inj H
    go_wp2
    go_ret
    exact ⟨by rfl, by repeat (first | exact Drawn0.refl _ | apply Drawn0.step)⟩
def q2d.l0 : Nat → List ByteArray → Int → Int → List (S86) → List (List Int) → Option (Int × Int)
 | 0, _, _, _, _, _ => none
 | k + 1, x1, x6, x7, x1000, x1001 => if x7 < (x1.length : Int) then (if 0 ≤ x6 then (if x6 < (x1000.length : Int) then (if ((rd_T86 x1000 x6).f0) = 2 then (if 0 ≤ x7 then ((q2a.f k ((rd_T86 x1000 x6).f4) (rdOf ByteArray.empty x1 x7)).bind fun t733 => (if t733 < 0 then (some (0, 4)) else (if 0 ≤ t733 then (if t733 < (((rd_T86 x1000 x6).f4).length : Int) then (q2d.l0 k x1 ((rd_T143 ((rd_T86 x1000 x6).f4) t733).f1) (wrap64 (x7 + 1)) x1000 x1001) else (none)) else (none)))) else (none)) else (some (0, 9))) else (none)) else (none)) else (some (x6, 0))
def q2d.f (k : Nat) (s0_0 : List (S86)) (s0_1 : List (List Int)) (l1 : List ByteArray) : Option (Int × Int) := q2d.l0 k l1 0 0 s0_0 s0_1
theorem q2d.mono_l : ∀ k, (∀ y0 y1 y2 y3 y4, LeO (q2d.l0 k y0 y1 y2 y3 y4) (q2d.l0 (k + 1) y0 y1 y2 y3 y4))
 | 0 => fun _ _ _ _ _ r h => by simp [q2d.l0] at h
 | k + 1 => by
  have ih0 := q2d.mono_l k
  ·intro y0 y1 y2 y3 y4
   unfold q2d.l0
   repeat' first | (with_reducible exact ih0 _ _ _ _ _) | (with_reducible exact q2a.mono _ _ _) | (with_reducible exact LeO.refl _) | (with_reducible refine LeO.ite ?_ ?_) | (with_reducible refine LeO.bind ?_ (fun _ => ?_))
theorem q2d.mono : ∀ a0 a1 a2 k, LeO (q2d.f k a0 a1 a2) (q2d.f (k + 1) a0 a1 a2) := by
 intro a0 a1 a2 k
 have ih0 := q2d.mono_l k
 unfold q2d.f
 repeat' (with_reducible exact ih0 _ _ _ _ _)
set_option maxHeartbeats 8000000 in
set_option maxRecDepth 100000 in
theorem q2d.calls (k : Nat) (g : Nat) (s0_0 : List (S86)) (s0_1 : List (List Int)) (A1 : Option Addr) (c1 : Nat) (l1 : List ByteArray) (r1 : Int) (r2 : Int) (w0 w : World) (hI : IsS28 w0 w g s0_0 s0_1) (hB : Below w0.heap.size w0 w) (hr1 : Kd.C Kd.string w A1 l1.length l1) (hc1 : l1.length ≤ c1) (hf1 : ∀ ad, A1 = some ad → 0 < l1.length → ad.block ≠ g) (h : q2d.f k s0_0 s0_1 l1 = some (r1, r2)) :
  Calls Tryz.prog 60 #[.pointer (some ⟨g, 0, none⟩), .slice A1 l1.length c1] w fun e w' => e = .returned (.tuple #[.int .i64 r1, .int .i64 r2]) ∧ IsS28 w0 w' g s0_0 s0_1 ∧ Below w0.heap.size w0 w' ∧ KeepBut w w' g none := by
 have HR1 := Am hr1
 have HC1 := Am hc1
 clear hr1 hc1
 have HI0 := Am hI
 have HK := Am (KeepBut.refl w g none)
 have HL := Am hB.size
 clear hI
 have HW0 := Am hB.size
 have HB := Am hB
 clear hB
 have H : (q2d.l0 k l1 0 0 s0_0 s0_1) = some (r1, r2) := h
 clear h
 have H' := Am H
 clear H
 go_enter Tryz.func60, Tryz.ntmps60
 go_wp2
 repeat (go_quiet (fail))
 go_loopg [6, 7] k (fun kq v6 v7 w' => ∃ (x6_1 : Int) (x7_1 : Int), v6 = .int .i64 x6_1 ∧ v7 = .int .i64 x7_1 ∧ Aside0 (q2d.l0 kq l1 x6_1 x7_1 s0_0 s0_1 = some (r1, r2)) ∧ Aside0 (kq ≤ k) ∧ Aside0 (IsS28 w0 w' g s0_0 s0_1) ∧ Aside0 (KeepBut w w' g none) ∧ Aside0 (Below w0.heap.size w0 w'))
 case atStart => exact ⟨(0), (0), (by rfl), (by rfl), H', ⟨Nat.le_refl _⟩, ⟨HI0.out⟩, ⟨HK.out⟩, ⟨HB.out⟩⟩
 case round =>
  clear H'
  obtain ⟨x6_1, x7_1, rfl, rfl, HA, HK1, HI0, HK, HB⟩ := hrel
  cases gk with
  | zero => exact absurd HA.out (by simp [q2d.l0])
  | succ k1 =>
   have H := HA.out
   clear HA
   simp only [q2d.l0] at H
   by_cases c3 : x7_1 < (l1.length : Int)
   ·rw [if_pos c3] at H
    have c3b0 : decide (x7_1 < (l1.length : Int)) = true := decide_eq_true c3
    clear c3
    replace H := ino H
    obtain ⟨c4, H⟩ := H
    have c4b0 : decide (0 ≤ x6_1) = true := decide_eq_true c4
    clear c4
    replace H := ino H
    obtain ⟨c5, H⟩ := H
    have c5b0 : decide (x6_1 < (s0_0.length : Int)) = true := decide_eq_true c5
    clear c5
    by_cases c6 : ((rd_T86 s0_0 x6_1).f0) = 2
    ·rw [if_pos c6] at H
     have c6b0 : (((rd_T86 s0_0 x6_1).f0) == 2) = true := beq_iff_eq.mpr c6
     have c6b1 : (((rd_T86 s0_0 x6_1).f0) != 2) = false := bne_eq_false_iff_eq.mpr c6
     clear c6
     replace H := ino H
     obtain ⟨c7, H⟩ := H
     have c7b0 : decide (0 ≤ x7_1) = true := decide_eq_true c7
     clear c7
     replace H := zbs H
     obtain ⟨t733, A8, H⟩ := H
     by_cases c9 : t733 < 0
     ·rw [if_pos c9] at H
      have c9b0 : decide (t733 < 0) = true := decide_eq_true c9
      clear c9
      simp only [Option.some.injEq, Prod.mk.injEq] at H
      obtain ⟨rfl, rfl⟩ := H
      obtain ⟨ASz10_0, cSz10_0, ASz10_1, cSz10_1, HGz10, hgz10, HSz10_0, HSz10_1⟩ := HI0.out
      have hcz10_0 := cellS28_0 HGz10
      have hcz10_1 := cellS28_1 HGz10
      clear HGz10 hgz10
      have p730 : 0 ≤ (x6_1 : Int) := od (by assumption)
      have q730 : x6_1 < (s0_0.length : Int) := od (by assumption)
      obtain ⟨ad730, A730_3, c730_3, A730_4, c730_4, e730, hx730_0, hx730_1, hx730_2, hx730_3, hx730_4, hl730_3, hi730_3, hl730_4, hi730_4⟩ := at_T86 HSz10_0.1 x6_1 p730 q730
      cases e730
      replace hx730_0 := pcb HB.out hx730_0
      replace hx730_1 := pcb HB.out hx730_1
      replace hx730_2 := pcb HB.out hx730_2
      replace hx730_3 := pcb HB.out hx730_3
      replace hx730_4 := pcb HB.out hx730_4
      have HR730_3 := Am hi730_3
      have HC730_3 := Am hl730_3
      clear hi730_3 hl730_3
      have HR730_4 := Am hi730_4
      have HC730_4 := Am hl730_4
      clear hi730_4 hl730_4
      replace p730 := eq_true p730
      replace q730 := eq_true q730
      have p731 : 0 ≤ (x6_1 : Int) := od (by assumption)
      have q731 : x6_1 < (s0_0.length : Int) := od (by assumption)
      obtain ⟨ad731, A731_3, c731_3, A731_4, c731_4, e731, hx731_0, hx731_1, hx731_2, hx731_3, hx731_4, hl731_3, hi731_3, hl731_4, hi731_4⟩ := at_T86 HSz10_0.1 x6_1 p731 q731
      obtain rfl : ad730 = ad731 := (by injection e731)
      replace hx731_0 := pcb HB.out hx731_0
      replace hx731_1 := pcb HB.out hx731_1
      replace hx731_2 := pcb HB.out hx731_2
      replace hx731_3 := pcb HB.out hx731_3
      replace hx731_4 := pcb HB.out hx731_4
      have HR731_3 := Am hi731_3
      have HC731_3 := Am hl731_3
      clear hi731_3 hl731_3
      have HR731_4 := Am hi731_4
      have HC731_4 := Am hl731_4
      clear hi731_4 hl731_4
      replace p731 := eq_true p731
      replace q731 := eq_true q731
      have ea_ := Option.some.inj (hx730_3.symm.trans hx731_3)
      injection ea_ with ea_ en_ ec_
      subst ea_
      subst ec_
      clear en_
      have ea_ := Option.some.inj (hx730_4.symm.trans hx731_4)
      injection ea_ with ea_ en_ ec_
      subst ea_
      subst ec_
      clear en_
      have p732 : 0 ≤ (x7_1 : Int) := od (by assumption)
      have q732 : x7_1 < (l1.length : Int) := od (by assumption)
      obtain ⟨ad732, e732, hx732_0⟩ := Kd.at_string HR1.out x7_1 p732 q732
      cases e732
      replace hx732_0 := keep_cell HK.out hx732_0 (by (rw [add_block]; exact hf1 _ rfl (by omega)))
      replace p732 := eq_true p732
      replace q732 := eq_true q732
      go_wp2_with (fail)
      repeat (go_quiet (first | (go_at_call 129; (with_reducible refine (q2a.calls k1 _ _ ((rd_T86 s0_0 x6_1).f4) (rdOf ByteArray.empty l1 x7_1) t733 _ ?side1 ?side2 A8.out).mono ?_); (case side1 => exact Kd.C_below HR731_4.out (by repeat (first | (with_reducible first | exact HB.out | apply below_alloc | apply pw_below_drewN | apply below_drew1 | refine below_set ?_ (IsS28.ge HI0.out)) | exact HB.out))); (case side2 => exact HC731_4.out); rintro e w' ⟨rfl, ⟨nd, rfl⟩⟩; (try first | exact ⟨rfl, _, World.drewN_drewN _ _ _⟩ | exact ⟨rfl, _, Eq.trans (World.drewN_drewN _ _ _) (congrArg (World.drewN _) (Nat.add_assoc _ _ _))⟩))); try go_wp2_with (fail))
      go_ret2
      exact ⟨by rfl, by repeat ((with_reducible first | exact HI0.out | apply IsS28.drewN)), by repeat ((with_reducible first | exact HB.out | apply pw_below_drewN)), by repeat ((with_reducible first | exact HK.out | apply keep_drewN))⟩
     ·rw [if_neg c9] at H
      have c9b0 : decide (t733 < 0) = false := decide_eq_false c9
      clear c9
      replace H := ino H
      obtain ⟨c11, H⟩ := H
      have c11b0 : decide (0 ≤ t733) = true := decide_eq_true c11
      clear c11
      replace H := ino H
      obtain ⟨c12, H⟩ := H
      have c12b0 : decide (t733 < (((rd_T86 s0_0 x6_1).f4).length : Int)) = true := decide_eq_true c12
      clear c12
      have H' := Am H
      clear H
      obtain ⟨ASz13_0, cSz13_0, ASz13_1, cSz13_1, HGz13, hgz13, HSz13_0, HSz13_1⟩ := HI0.out
      have hcz13_0 := cellS28_0 HGz13
      have hcz13_1 := cellS28_1 HGz13
      clear HGz13 hgz13
      have p730 : 0 ≤ (x6_1 : Int) := od (by assumption)
      have q730 : x6_1 < (s0_0.length : Int) := od (by assumption)
      obtain ⟨ad730, A730_3, c730_3, A730_4, c730_4, e730, hx730_0, hx730_1, hx730_2, hx730_3, hx730_4, hl730_3, hi730_3, hl730_4, hi730_4⟩ := at_T86 HSz13_0.1 x6_1 p730 q730
      cases e730
      replace hx730_0 := pcb HB.out hx730_0
      replace hx730_1 := pcb HB.out hx730_1
      replace hx730_2 := pcb HB.out hx730_2
      replace hx730_3 := pcb HB.out hx730_3
      replace hx730_4 := pcb HB.out hx730_4
      have HR730_3 := Am hi730_3
      have HC730_3 := Am hl730_3
      clear hi730_3 hl730_3
      have HR730_4 := Am hi730_4
      have HC730_4 := Am hl730_4
      clear hi730_4 hl730_4
      replace p730 := eq_true p730
      replace q730 := eq_true q730
      have p731 : 0 ≤ (x6_1 : Int) := od (by assumption)
      have q731 : x6_1 < (s0_0.length : Int) := od (by assumption)
      obtain ⟨ad731, A731_3, c731_3, A731_4, c731_4, e731, hx731_0, hx731_1, hx731_2, hx731_3, hx731_4, hl731_3, hi731_3, hl731_4, hi731_4⟩ := at_T86 HSz13_0.1 x6_1 p731 q731
      obtain rfl : ad730 = ad731 := (by injection e731)
      replace hx731_0 := pcb HB.out hx731_0
      replace hx731_1 := pcb HB.out hx731_1
      replace hx731_2 := pcb HB.out hx731_2
      replace hx731_3 := pcb HB.out hx731_3
      replace hx731_4 := pcb HB.out hx731_4
      have HR731_3 := Am hi731_3
      have HC731_3 := Am hl731_3
      clear hi731_3 hl731_3
      have HR731_4 := Am hi731_4
      have HC731_4 := Am hl731_4
      clear hi731_4 hl731_4
      replace p731 := eq_true p731
      replace q731 := eq_true q731
      have ea_ := Option.some.inj (hx730_3.symm.trans hx731_3)
      injection ea_ with ea_ en_ ec_
      subst ea_
      subst ec_
      clear en_
      have ea_ := Option.some.inj (hx730_4.symm.trans hx731_4)
      injection ea_ with ea_ en_ ec_
      subst ea_
      subst ec_
      clear en_
      have p732 : 0 ≤ (x7_1 : Int) := od (by assumption)
      have q732 : x7_1 < (l1.length : Int) := od (by assumption)
      obtain ⟨ad732, e732, hx732_0⟩ := Kd.at_string HR1.out x7_1 p732 q732
      cases e732
      replace hx732_0 := keep_cell HK.out hx732_0 (by (rw [add_block]; exact hf1 _ rfl (by omega)))
      replace p732 := eq_true p732
      replace q732 := eq_true q732
      go_wp2_with (fail)
      repeat (go_quiet (first | (go_at_call 129; (with_reducible refine (q2a.calls k1 _ _ ((rd_T86 s0_0 x6_1).f4) (rdOf ByteArray.empty l1 x7_1) t733 _ ?side1 ?side2 A8.out).mono ?_); (case side1 => exact Kd.C_below HR731_4.out (by repeat (first | (with_reducible first | exact HB.out | apply below_alloc | apply pw_below_drewN | apply below_drew1 | refine below_set ?_ (IsS28.ge HI0.out)) | exact HB.out))); (case side2 => exact HC731_4.out); rintro e w' ⟨rfl, ⟨nd, rfl⟩⟩; (try first | exact ⟨rfl, _, World.drewN_drewN _ _ _⟩ | exact ⟨rfl, _, Eq.trans (World.drewN_drewN _ _ _) (congrArg (World.drewN _) (Nat.add_assoc _ _ _))⟩); have p734 : 0 ≤ (x6_1 : Int) := of_decide_eq_true (by first | (with_reducible assumption) | assumption); have q734 : x6_1 < (s0_0.length : Int) := of_decide_eq_true (by first | (with_reducible assumption) | assumption); obtain ⟨ad734, A734_3, c734_3, A734_4, c734_4, e734, hx734_0, hx734_1, hx734_2, hx734_3, hx734_4, hl734_3, hi734_3, hl734_4, hi734_4⟩ := at_T86 HSz13_0.1 x6_1 p734 q734; obtain rfl : ad730 = ad734 := (by injection e734); replace hx734_0 := pcb HB.out hx734_0; replace hx734_1 := pcb HB.out hx734_1; replace hx734_2 := pcb HB.out hx734_2; replace hx734_3 := pcb HB.out hx734_3; replace hx734_4 := pcb HB.out hx734_4; have HR734_3 := Am hi734_3; have HC734_3 := Am hl734_3; clear hi734_3 hl734_3; have HR734_4 := Am hi734_4; have HC734_4 := Am hl734_4; clear hi734_4 hl734_4; replace p734 := eq_true p734; replace q734 := eq_true q734; have ea_ := Option.some.inj (hx730_3.symm.trans hx734_3); injection ea_ with ea_ en_ ec_; subst ea_; subst ec_; clear en_; have ea_ := Option.some.inj (hx730_4.symm.trans hx734_4); injection ea_ with ea_ en_ ec_; subst ea_; subst ec_; clear en_; have p735 : 0 ≤ (t733 : Int) := of_decide_eq_true (by first | (with_reducible assumption) | assumption); have q735 : t733 < (((rd_T86 s0_0 x6_1).f4).length : Int) := of_decide_eq_true (by first | (with_reducible assumption) | assumption); obtain ⟨ad735, e735, hx735_0, hx735_1⟩ := at_T143 HR734_4.out t733 p735 q735; cases e735; replace hx735_0 := pcb HB.out hx735_0; replace hx735_1 := pcb HB.out hx735_1; replace p735 := eq_true p735; replace q735 := eq_true q735)); try go_wp2_with (fail))
      go_roundg k1
      case measure => have := HK1.out; omega
      case rel => exact ⟨((rd_T143 ((rd_T86 s0_0 x6_1).f4) t733).f1), (wrap64 (x7_1 + 1)), (by rfl), (by rfl), H', ⟨by have := HK1.out; omega⟩, ⟨by repeat ((with_reducible first | exact HI0.out | apply IsS28.drewN))⟩, ⟨by repeat ((with_reducible first | exact HK.out | apply keep_drewN))⟩, ⟨by repeat ((with_reducible first | exact HB.out | apply pw_below_drewN))⟩⟩
    ·rw [if_neg c6] at H
     have c6b0 : (((rd_T86 s0_0 x6_1).f0) == 2) = false := beq_eq_false_iff_ne.mpr c6
     have c6b1 : (((rd_T86 s0_0 x6_1).f0) != 2) = true := bne_iff_ne.mpr c6
     simp only [Option.some.injEq, Prod.mk.injEq] at H
     obtain ⟨rfl, rfl⟩ := H
     obtain ⟨ASz14_0, cSz14_0, ASz14_1, cSz14_1, HGz14, hgz14, HSz14_0, HSz14_1⟩ := HI0.out
     have hcz14_0 := cellS28_0 HGz14
     have hcz14_1 := cellS28_1 HGz14
     clear HGz14 hgz14
     have p730 : 0 ≤ (x6_1 : Int) := od (by assumption)
     have q730 : x6_1 < (s0_0.length : Int) := od (by assumption)
     obtain ⟨ad730, A730_3, c730_3, A730_4, c730_4, e730, hx730_0, hx730_1, hx730_2, hx730_3, hx730_4, hl730_3, hi730_3, hl730_4, hi730_4⟩ := at_T86 HSz14_0.1 x6_1 p730 q730
     cases e730
     replace hx730_0 := pcb HB.out hx730_0
     replace hx730_1 := pcb HB.out hx730_1
     replace hx730_2 := pcb HB.out hx730_2
     replace hx730_3 := pcb HB.out hx730_3
     replace hx730_4 := pcb HB.out hx730_4
     have HR730_3 := Am hi730_3
     have HC730_3 := Am hl730_3
     clear hi730_3 hl730_3
     have HR730_4 := Am hi730_4
     have HC730_4 := Am hl730_4
     clear hi730_4 hl730_4
     replace p730 := eq_true p730
     replace q730 := eq_true q730
     go_wp2
     repeat (go_quiet (fail))
     go_ret2
     exact ⟨by rfl, HI0.out, HB.out, HK.out⟩
   ·rw [if_neg c3] at H
    have c3b0 : decide (x7_1 < (l1.length : Int)) = false := decide_eq_false c3
    clear c3
    simp only [Option.some.injEq, Prod.mk.injEq] at H
    obtain ⟨rfl, rfl⟩ := H
    go_wp2
    repeat (go_quiet (fail))
    go_ret2
    exact ⟨by rfl, HI0.out, HB.out, HK.out⟩
def q1q.l0 : Nat → Int → List ByteArray → Int → List (S86) → List (List Int) → Option (Int × ByteArray)
 | 0, _, _, _, _, _ => none
 | k + 1, x1, x6, x7, x746000, x746001 => if x7 < (x6.length : Int) then (if 0 ≤ x7 then (if 1 ≤ ((rdOf ByteArray.empty x6 x7).size : Int) then ((q1t.f k ((rdOf ByteArray.empty x6 x7).extract 1 (rdOf ByteArray.empty x6 x7).size) 47).bind fun t753 => ((q2d.f k x746000 x746001 t753).bind fun bt756 => (if bt756.2 = 0 then (if bt756.1 = x1 then (some (0, rdOf ByteArray.empty x6 x7)) else (q1q.l0 k x1 x6 (wrap64 (x7 + 1)) x746000 x746001)) else (q1q.l0 k x1 x6 (wrap64 (x7 + 1)) x746000 x746001)))) else (none)) else (none)) else (some (4, (⟨#[]⟩ : ByteArray)))
def q1q.f (k : Nat) (l0_0 : List (S86)) (l0_1 : List (List Int)) (a1 : Int) : Option (Int × ByteArray) := (q25.f k l0_0 l0_1).bind fun t747 => (if t747 = 0 then ((q27.f l0_0 l0_1 a1).bind fun t748 => (if t748 = true then (if a1 = 0 then (some (0, (⟨#[47]⟩ : ByteArray))) else ((q2c.f k l0_0 l0_1).bind fun t749 => (q1q.l0 k a1 t749 0 l0_0 l0_1))) else (some (3, (⟨#[]⟩ : ByteArray))))) else (some (t747, (⟨#[]⟩ : ByteArray))))
theorem q1q.mono_l : ∀ k, (∀ y0 y1 y2 y3 y4, LeO (q1q.l0 k y0 y1 y2 y3 y4) (q1q.l0 (k + 1) y0 y1 y2 y3 y4))
 | 0 => fun _ _ _ _ _ r h => by simp [q1q.l0] at h
 | k + 1 => by
  have ih0 := q1q.mono_l k
  ·intro y0 y1 y2 y3 y4
   unfold q1q.l0
   repeat' first | (with_reducible exact ih0 _ _ _ _ _) | (with_reducible exact q1t.mono _ _ _) | (with_reducible exact q2d.mono _ _ _ _) | (with_reducible exact LeO.refl _) | (with_reducible refine LeO.ite ?_ ?_) | (with_reducible refine LeO.bind ?_ (fun _ => ?_))
theorem q1q.mono : ∀ a0 a1 a2 k, LeO (q1q.f k a0 a1 a2) (q1q.f (k + 1) a0 a1 a2) := by
 intro a0 a1 a2 k
 have ih0 := q1q.mono_l k
 unfold q1q.f
 repeat' first | (with_reducible exact ih0 _ _ _ _ _) | (with_reducible exact q25.mono _ _ _) | (with_reducible exact q2c.mono _ _ _) | (with_reducible exact LeO.refl _) | (with_reducible refine LeO.ite ?_ ?_) | (with_reducible refine LeO.bind ?_ (fun _ => ?_))
set_option maxHeartbeats 8000000 in
set_option maxRecDepth 100000 in
theorem q1q.calls (k : Nat) (A0_0 : Option Addr) (c0_0 : Nat) (l0_0 : List (S86)) (A0_1 : Option Addr) (c0_1 : Nat) (l0_1 : List (List Int)) (a1 : Int) (r1 : Int) (r2 : ByteArray) (w : World) (hr0_0 : Kd.C k86 w A0_0 l0_0.length l0_0) (hc0_0 : l0_0.length ≤ c0_0) (hr0_1 : Kd.C (Kd.slice 5 (Kd.int .u8)) w A0_1 l0_1.length l0_1) (hc0_1 : l0_1.length ≤ c0_1) (h : q1q.f k l0_0 l0_1 a1 = some (r1, r2)) :
  Calls Tryz.prog 18 #[.agg #[.slice A0_0 l0_0.length c0_0, .slice A0_1 l0_1.length c0_1], .int .i64 a1] w fun e w' => e = .returned (.agg #[.int .i64 r1, .string r2]) ∧ Below w.heap.size w w' := by
 have hu28 := Tryz.underlying28
 have hu48 := Tryz.underlying48
 have HR0_0 := Am hr0_0
 have HC0_0 := Am hc0_0
 clear hr0_0 hc0_0
 have HR0_1 := Am hr0_1
 have HC0_1 := Am hc0_1
 clear hr0_1 hc0_1
 have HB := Am (Below.refl w.heap.size w)
 have H : ((q25.f k l0_0 l0_1).bind fun t747 => (if t747 = 0 then ((q27.f l0_0 l0_1 a1).bind fun t748 => (if t748 = true then (if a1 = 0 then (some (0, (⟨#[47]⟩ : ByteArray))) else ((q2c.f k l0_0 l0_1).bind fun t749 => (q1q.l0 k a1 t749 0 l0_0 l0_1))) else (some (3, (⟨#[]⟩ : ByteArray))))) else (some (t747, (⟨#[]⟩ : ByteArray))))) = some (r1, r2) := h
 clear h
 replace H := zbs H
 obtain ⟨t747, A3, H⟩ := H
 by_cases c4 : t747 = 0
 ·rw [if_pos c4] at H
  have c4b0 : (t747 == 0) = true := beq_iff_eq.mpr c4
  have c4b1 : (t747 != 0) = false := bne_eq_false_iff_eq.mpr c4
  clear c4
  replace H := zbs H
  obtain ⟨t748, A5, H⟩ := H
  by_cases c6 : t748 = true
  ·subst c6
   have H1 : (if a1 = 0 then (some (0, (⟨#[47]⟩ : ByteArray))) else ((q2c.f k l0_0 l0_1).bind fun t749 => (q1q.l0 k a1 t749 0 l0_0 l0_1))) = some (r1, r2) := by rw [if_pos rfl] at H; exact H
   clear H
   have H := H1
   clear H1
   by_cases c7 : a1 = 0
   ·rw [if_pos c7] at H
    have c7b0 : (a1 == 0) = true := beq_iff_eq.mpr c7
    have c7b1 : (a1 != 0) = false := bne_eq_false_iff_eq.mpr c7
    clear c7
    simp only [Option.some.injEq, Prod.mk.injEq] at H
    obtain ⟨rfl, rfl⟩ := H
    go_enter Tryz.func18, Tryz.ntmps18
    go_wp2_with (first | ((with_reducible refine gate_dst (N := 2) rfl ?_); refine box_event ?hg (N := 2) ?hd (cs := #[.slice A0_0 l0_0.length c0_0, .slice A0_1 l0_1.length c0_1]) (t := 28) ?hr ?_; (case hd => rfl); (case hg => rfl); (case hr => (go_simp; done)); intro gb745 hg w8 hbox hb; have BK745 := Am hbox; have GW745 := Am ((nge hg HB.out)); have GE745 := Am ((nge hg HB.out)); replace HB := Am (below_step HB.out hb); clear hb hbox hg; have HI745 := Am (show IsS28 w w8 gb745 l0_0 l0_1 from ⟨A0_0, c0_0, A0_1, c0_1, BK745.out, GW745.out, ⟨HR0_0.out, HC0_0.out⟩, ⟨HR0_1.out, HC0_1.out⟩⟩)) | ((with_reducible refine gate_dst (N := 4) rfl ?_); refine box_event ?hg (N := 4) ?hd (cs := #[.int .i64 0, .string (⟨#[]⟩ : ByteArray)]) (t := 48) ?hr ?_; (case hd => rfl); (case hg => rfl); (case hr => (go_simp; done)); intro gb746 hg w9 hbox hb; have BK746 := Am hbox; have GW746 := Am ((nge hg HB.out)); have GE746 := Am ((nge hg HB.out)); replace HB := Am (below_step HB.out hb); have NB745_746 := Am ((by rw [hg]; exact Nat.ne_of_lt (IsS28.lt (show IsS28 w _ gb745 l0_0 l0_1 from HI745.out)) : gb745 ≠ gb746)); have NB746_745 := Am ((by rw [hg]; exact Nat.ne_of_gt (IsS28.lt (show IsS28 w _ gb745 l0_0 l0_1 from HI745.out)) : gb746 ≠ gb745)); replace HI745 := Am (IsS28.below HI745.out hb); clear hb hbox hg) | ((with_reducible refine gate_callee (f := 57) rfl ?_); refine goesL_ (some 10) rfl rfl Tryz.func57 (by kernel_rfl) rfl #[.pointer (some ⟨gb745, 0, none⟩)] rfl (by (try simp only [List.map_toArray, List.map_cons, List.map_nil]); rfl) ?_; (with_reducible refine (q25.calls k gb745 l0_0 l0_1 t747 w _ ?side1 ?side2 A3.out).mono ?_); (case side1 => repeat ((with_reducible exact HI745.out))); (case side2 => repeat ((with_reducible exact HB.out))); rintro e w10 ⟨rfl, hi, hb, hk⟩; refine ⟨_, rfl, ?_⟩; replace BK746 := Am (KeepBut.blk hk BK746.out NB746_745.out (by simp)); replace HB := Am hb; replace HI745 := Am hi; (try clear hb); (try clear hk); (try clear hi)) | ((with_reducible refine gate_callee (f := 58) rfl ?_); refine goesL_ (some 16) rfl rfl Tryz.func58 (by kernel_rfl) rfl #[.pointer (some ⟨gb745, 0, none⟩), .int .i64 a1] rfl (by (try simp only [List.map_toArray, List.map_cons, List.map_nil]); rfl) ?_; (with_reducible refine (q27.calls gb745 l0_0 l0_1 a1 true w _ ?side1 ?side2 A5.out).mono ?_); (case side1 => repeat ((with_reducible exact HI745.out))); (case side2 => repeat ((with_reducible exact HB.out))); rintro e w11 ⟨rfl, hi, hb, hk⟩; refine ⟨_, rfl, ?_⟩; replace BK746 := Am (KeepBut.blk hk BK746.out NB746_745.out (by simp)); replace HB := Am hb; replace HI745 := Am hi; (try clear hb); (try clear hk); (try clear hi); have hnb12 := NB746_745.out; have hnc12 := NB745_746.out; obtain ⟨hcz13_0, hcz13_1, hfz13_0, hfz13_1⟩ := cb2 BK746.out))
    refine bodyPost_ret (results_cell_row rfl _ _ gb746 48 #[.int .i64 0, .string (⟨#[47]⟩ : ByteArray)] (0, 0) _ rfl (by refine blk_put (cs := #[.int .i64 0, .string (⟨#[]⟩ : ByteArray)]) ?_ 1 _ rfl; refine blk_put (cs := #[.int .i64 0, .string (⟨#[]⟩ : ByteArray)]) ?_ 0 _ rfl; exact BK746.out) Tryz.underlying48 rfl (by kernel_rfl)) rfl ?_
    exact ⟨by rfl, by repeat ((with_reducible first | exact HB.out | refine below_set ?_ GE746.out))⟩
   ·rw [if_neg c7] at H
    have c7b0 : (a1 == 0) = false := beq_eq_false_iff_ne.mpr c7
    have c7b1 : (a1 != 0) = true := bne_iff_ne.mpr c7
    replace H := zbs H
    obtain ⟨t749, A14, H⟩ := H
    have H' := Am H
    clear H
    go_enter Tryz.func18, Tryz.ntmps18
    go_wp2_with (first | ((with_reducible refine gate_dst (N := 2) rfl ?_); refine box_event ?hg (N := 2) ?hd (cs := #[.slice A0_0 l0_0.length c0_0, .slice A0_1 l0_1.length c0_1]) (t := 28) ?hr ?_; (case hd => rfl); (case hg => rfl); (case hr => (go_simp; done)); intro gb745 hg w15 hbox hb; have BK745 := Am hbox; have GW745 := Am ((nge hg HB.out)); have GE745 := Am ((nge hg HB.out)); replace HB := Am (below_step HB.out hb); clear hb hbox hg; have HI745 := Am (show IsS28 w w15 gb745 l0_0 l0_1 from ⟨A0_0, c0_0, A0_1, c0_1, BK745.out, GW745.out, ⟨HR0_0.out, HC0_0.out⟩, ⟨HR0_1.out, HC0_1.out⟩⟩)) | ((with_reducible refine gate_dst (N := 4) rfl ?_); refine box_event ?hg (N := 4) ?hd (cs := #[.int .i64 0, .string (⟨#[]⟩ : ByteArray)]) (t := 48) ?hr ?_; (case hd => rfl); (case hg => rfl); (case hr => (go_simp; done)); intro gb746 hg w16 hbox hb; have BK746 := Am hbox; have GW746 := Am ((nge hg HB.out)); have GE746 := Am ((nge hg HB.out)); replace HB := Am (below_step HB.out hb); have NB745_746 := Am ((by rw [hg]; exact Nat.ne_of_lt (IsS28.lt (show IsS28 w _ gb745 l0_0 l0_1 from HI745.out)) : gb745 ≠ gb746)); have NB746_745 := Am ((by rw [hg]; exact Nat.ne_of_gt (IsS28.lt (show IsS28 w _ gb745 l0_0 l0_1 from HI745.out)) : gb746 ≠ gb745)); replace HI745 := Am (IsS28.below HI745.out hb); clear hb hbox hg) | ((with_reducible refine gate_callee (f := 57) rfl ?_); refine goesL_ (some 10) rfl rfl Tryz.func57 (by kernel_rfl) rfl #[.pointer (some ⟨gb745, 0, none⟩)] rfl (by (try simp only [List.map_toArray, List.map_cons, List.map_nil]); rfl) ?_; (with_reducible refine (q25.calls k gb745 l0_0 l0_1 t747 w _ ?side1 ?side2 A3.out).mono ?_); (case side1 => repeat ((with_reducible exact HI745.out))); (case side2 => repeat ((with_reducible exact HB.out))); rintro e w17 ⟨rfl, hi, hb, hk⟩; refine ⟨_, rfl, ?_⟩; replace BK746 := Am (KeepBut.blk hk BK746.out NB746_745.out (by simp)); replace HB := Am hb; replace HI745 := Am hi; (try clear hb); (try clear hk); (try clear hi)) | ((with_reducible refine gate_callee (f := 58) rfl ?_); refine goesL_ (some 16) rfl rfl Tryz.func58 (by kernel_rfl) rfl #[.pointer (some ⟨gb745, 0, none⟩), .int .i64 a1] rfl (by (try simp only [List.map_toArray, List.map_cons, List.map_nil]); rfl) ?_; (with_reducible refine (q27.calls gb745 l0_0 l0_1 a1 true w _ ?side1 ?side2 A5.out).mono ?_); (case side1 => repeat ((with_reducible exact HI745.out))); (case side2 => repeat ((with_reducible exact HB.out))); rintro e w18 ⟨rfl, hi, hb, hk⟩; refine ⟨_, rfl, ?_⟩; replace BK746 := Am (KeepBut.blk hk BK746.out NB746_745.out (by simp)); replace HB := Am hb; replace HI745 := Am hi; (try clear hb); (try clear hk); (try clear hi)) | ((with_reducible refine gate_callee (f := 59) rfl ?_); refine goesL_ (some 22) rfl rfl Tryz.func59 (by kernel_rfl) rfl #[.pointer (some ⟨gb745, 0, none⟩)] rfl (by (try simp only [List.map_toArray, List.map_cons, List.map_nil]); rfl) ?_; (with_reducible refine (q2c.calls k gb745 l0_0 l0_1 t749 w _ ?side1 ?side2 A14.out).mono ?_); (case side1 => repeat ((with_reducible exact HI745.out))); (case side2 => repeat ((with_reducible exact HB.out))); rintro e w19 ⟨v750, rfl, ho0, hi, hb, hk⟩; refine ⟨_, rfl, ?_⟩; replace BK746 := Am (KeepBut.blk hk BK746.out NB746_745.out (by simp)); have HO751 := Am (Kd.R_lower ho0 (below_size HB.out)); replace HB := Am hb; replace HI745 := Am hi; (try clear hb); (try clear hk); (try clear hi); (try clear ho0)))
    go_loopg [7] k (fun kq v7 w' => ∃ (x7_1 : Int) (x747000_1 : Int) (x747001_1 : ByteArray), v7 = .int .i64 x7_1 ∧ Aside0 (q1q.l0 kq a1 t749 x7_1 l0_0 l0_1 = some (r1, r2)) ∧ Aside0 (kq ≤ k) ∧ Aside0 (Kd.R Kd.string 9 w' w.heap.size (fun _ => True) v750 t749) ∧ Aside0 (w'.heap[gb746]? = some (.cells #[.int .i64 x747000_1, .string x747001_1] 48 (0, 0))) ∧ Aside0 (IsS28 w w' gb745 l0_0 l0_1) ∧ Aside0 (Below w.heap.size w w'))
    case atStart => exact ⟨(0), (0), ((⟨#[]⟩ : ByteArray)), (by rfl), H', ⟨Nat.le_refl _⟩, ⟨by exact HO751.out⟩, ⟨by exact BK746.out⟩, ⟨HI745.out⟩, ⟨HB.out⟩⟩
    case round =>
     clear H'
     try clear c4b0
     try clear c4b1
     try clear c7
     try clear c7b0
     try clear c7b1
     obtain ⟨x7_1, x747000_1, x747001_1, rfl, HA, HK1, HO_6, BK746, HI745, HB⟩ := hrel
     cases gk with
     | zero => exact absurd HA.out (by simp [q1q.l0])
     | succ k1 =>
      have H := HA.out
      clear HA
      simp only [q1q.l0] at H
      by_cases c20 : x7_1 < (t749.length : Int)
      ·rw [if_pos c20] at H
       have c20b0 : decide (x7_1 < (t749.length : Int)) = true := decide_eq_true c20
       clear c20
       replace H := ino H
       obtain ⟨c21, H⟩ := H
       have c21b0 : decide (0 ≤ x7_1) = true := decide_eq_true c21
       clear c21
       replace H := ino H
       obtain ⟨c22, H⟩ := H
       have c22b0 := eq_true c22
       have c22b1 : decide (1 ≤ ((rdOf ByteArray.empty t749 x7_1).size : Int)) = true := decide_eq_true c22
       clear c22
       replace H := zbs H
       obtain ⟨t753, A23, H⟩ := H
       replace H := Option.bind_eq_some_iff.mp H
       obtain ⟨⟨t756, t757⟩, A240, H⟩ := H
       replace H : (if t757 = 0 then (if t756 = a1 then (some (0, rdOf ByteArray.empty t749 x7_1)) else (q1q.l0 k1 a1 t749 (wrap64 (x7_1 + 1)) l0_0 l0_1)) else (q1q.l0 k1 a1 t749 (wrap64 (x7_1 + 1)) l0_0 l0_1)) = some (r1, r2) := H
       have A24 := Am A240
       clear A240
       by_cases c25 : t757 = 0
       ·rw [if_pos c25] at H
        have c25b0 : (t757 == 0) = true := beq_iff_eq.mpr c25
        have c25b1 : (t757 != 0) = false := bne_eq_false_iff_eq.mpr c25
        clear c25
        by_cases c26 : t756 = a1
        ·rw [if_pos c26] at H
         have c26b0 : (t756 == a1) = true := beq_iff_eq.mpr c26
         have c26b1 : (t756 != a1) = false := bne_eq_false_iff_eq.mpr c26
         clear c26
         simp only [Option.some.injEq, Prod.mk.injEq] at H
         obtain ⟨rfl, rfl⟩ := H
         obtain ⟨Ao27, co27, eo27⟩ := Kd.R_slice HO_6.out
         subst eo27
         have p752 : 0 ≤ (x7_1 : Int) := od (by assumption)
         have q752 : x7_1 < (t749.length : Int) := od (by assumption)
         obtain ⟨ad752, e752, hx752_0⟩ := Kd.at_string (Kd.R_reads' HO_6.out).2.2 x7_1 p752 q752
         cases e752
         replace p752 := eq_true p752
         replace q752 := eq_true q752
         go_wp2_with (first | ((with_reducible refine gate_callee (f := 61) rfl ?_); refine goesL_ (some 35) rfl rfl Tryz.func61 (by kernel_rfl) rfl #[.string ((rdOf ByteArray.empty t749 x7_1).extract 1 (rdOf ByteArray.empty t749 x7_1).size), .int .u8 47] rfl (by (try simp only [List.map_toArray, List.map_cons, List.map_nil]); rfl) ?_; (with_reducible refine (q1t.calls k1 ((rdOf ByteArray.empty t749 x7_1).extract 1 (rdOf ByteArray.empty t749 x7_1).size) 47 t753 _ A23.out).mono ?_); rintro e w28 ⟨v754, rfl, ho0, hb⟩; refine ⟨_, rfl, ?_⟩; have HO755 := Am (Kd.R_lower (Kd.R_new' ho0 (Kd.R_lt HO_6.out)) (below_size HB.out)); replace HO_6 := Am (Kd.R_elder' HO_6.out (Kd.R_base ho0) hb); replace BK746 := Am (blk_below BK746.out hb); replace HI745 := Am (IsS28.below HI745.out hb); replace HB := Am (below_step HB.out hb); (try clear hb); (try clear ho0); obtain ⟨Ao29, co29, eo29⟩ := Kd.R_slice HO755.out; subst eo29) | ((with_reducible refine gate_callee (f := 60) rfl ?_); refine goesL_ (some 36) rfl rfl Tryz.func60 (by kernel_rfl) rfl #[.pointer (some ⟨gb745, 0, none⟩), .slice Ao29 t753.length co29] rfl (by (try simp only [List.map_toArray, List.map_cons, List.map_nil]); rfl) ?_; (with_reducible refine (q2d.calls k1 gb745 l0_0 l0_1 _ _ t753 t756 t757 w _ ?side1 ?side2 ?side3 ?side4 ?side5 A24.out).mono ?_); (case side1 => repeat ((with_reducible exact HI745.out))); (case side2 => repeat ((with_reducible exact HB.out))); (case side3 => repeat (exact (Kd.R_reads' HO755.out).2.2)); (case side4 => exact (Kd.R_reads' HO755.out).2.1); (case side5 => exact far_slice (IsS28.own_ne HI745.out HO755.out (by decide))); rintro e w30 ⟨rfl, hi, hb, hk⟩; refine ⟨_, rfl, ?_⟩; replace HO_6 := Am (Kd.R_mono (Kd.R_keep (IsS28.apart (show IsS28 w _ gb745 l0_0 l0_1 from HI745.out) HO_6.out (by decide)) hk (fun _ h => h.2)) (fun _ h => h.1)); replace BK746 := Am (KeepBut.blk hk BK746.out NB746_745.out (by simp)); replace HO755 := Am (Kd.R_mono (Kd.R_keep (IsS28.apart (show IsS28 w _ gb745 l0_0 l0_1 from HI745.out) HO755.out (by decide)) hk (fun _ h => h.2)) (fun _ h => h.1)); replace HB := Am hb; replace HI745 := Am hi; (try clear hb); (try clear hk); (try clear hi); have p758 : 0 ≤ (x7_1 : Int) := od (by assumption); have q758 : x7_1 < (t749.length : Int) := od (by assumption); obtain ⟨ad758, e758, hx758_0⟩ := Kd.at_string (Kd.R_reads' HO_6.out).2.2 x7_1 p758 q758; obtain rfl : ad752 = ad758 := (by injection e758); replace p758 := eq_true p758; replace q758 := eq_true q758; have hnb31 := NB746_745.out; have hnc31 := NB745_746.out; obtain ⟨hcz32_0, hcz32_1, hfz32_0, hfz32_1⟩ := cb2 BK746.out))
         refine bodyPost_ret (results_cell_row rfl _ _ gb746 48 #[.int .i64 0, .string (rdOf ByteArray.empty t749 x7_1)] (0, 0) _ rfl (by refine blk_put (cs := #[.int .i64 0, .string x747001_1]) ?_ 1 _ rfl; refine blk_put (cs := #[.int .i64 x747000_1, .string x747001_1]) ?_ 0 _ rfl; exact BK746.out) Tryz.underlying48 rfl (by kernel_rfl)) rfl ?_
         exact ⟨by rfl, by repeat ((with_reducible first | exact HB.out | refine below_set ?_ GE746.out))⟩
        ·rw [if_neg c26] at H
         have c26b0 : (t756 == a1) = false := beq_eq_false_iff_ne.mpr c26
         have c26b1 : (t756 != a1) = true := bne_iff_ne.mpr c26
         have H' := Am H
         clear H
         obtain ⟨Ao33, co33, eo33⟩ := Kd.R_slice HO_6.out
         subst eo33
         have p752 : 0 ≤ (x7_1 : Int) := od (by assumption)
         have q752 : x7_1 < (t749.length : Int) := od (by assumption)
         obtain ⟨ad752, e752, hx752_0⟩ := Kd.at_string (Kd.R_reads' HO_6.out).2.2 x7_1 p752 q752
         cases e752
         replace p752 := eq_true p752
         replace q752 := eq_true q752
         go_wp2_with (first | ((with_reducible refine gate_callee (f := 61) rfl ?_); refine goesL_ (some 35) rfl rfl Tryz.func61 (by kernel_rfl) rfl #[.string ((rdOf ByteArray.empty t749 x7_1).extract 1 (rdOf ByteArray.empty t749 x7_1).size), .int .u8 47] rfl (by (try simp only [List.map_toArray, List.map_cons, List.map_nil]); rfl) ?_; (with_reducible refine (q1t.calls k1 ((rdOf ByteArray.empty t749 x7_1).extract 1 (rdOf ByteArray.empty t749 x7_1).size) 47 t753 _ A23.out).mono ?_); rintro e w34 ⟨v754, rfl, ho0, hb⟩; refine ⟨_, rfl, ?_⟩; have HO755 := Am (Kd.R_lower (Kd.R_new' ho0 (Kd.R_lt HO_6.out)) (below_size HB.out)); replace HO_6 := Am (Kd.R_elder' HO_6.out (Kd.R_base ho0) hb); replace BK746 := Am (blk_below BK746.out hb); replace HI745 := Am (IsS28.below HI745.out hb); replace HB := Am (below_step HB.out hb); (try clear hb); (try clear ho0); obtain ⟨Ao35, co35, eo35⟩ := Kd.R_slice HO755.out; subst eo35) | ((with_reducible refine gate_callee (f := 60) rfl ?_); refine goesL_ (some 36) rfl rfl Tryz.func60 (by kernel_rfl) rfl #[.pointer (some ⟨gb745, 0, none⟩), .slice Ao35 t753.length co35] rfl (by (try simp only [List.map_toArray, List.map_cons, List.map_nil]); rfl) ?_; (with_reducible refine (q2d.calls k1 gb745 l0_0 l0_1 _ _ t753 t756 t757 w _ ?side1 ?side2 ?side3 ?side4 ?side5 A24.out).mono ?_); (case side1 => repeat ((with_reducible exact HI745.out))); (case side2 => repeat ((with_reducible exact HB.out))); (case side3 => repeat (exact (Kd.R_reads' HO755.out).2.2)); (case side4 => exact (Kd.R_reads' HO755.out).2.1); (case side5 => exact far_slice (IsS28.own_ne HI745.out HO755.out (by decide))); rintro e w36 ⟨rfl, hi, hb, hk⟩; refine ⟨_, rfl, ?_⟩; replace HO_6 := Am (Kd.R_mono (Kd.R_keep (IsS28.apart (show IsS28 w _ gb745 l0_0 l0_1 from HI745.out) HO_6.out (by decide)) hk (fun _ h => h.2)) (fun _ h => h.1)); replace BK746 := Am (KeepBut.blk hk BK746.out NB746_745.out (by simp)); replace HO755 := Am (Kd.R_mono (Kd.R_keep (IsS28.apart (show IsS28 w _ gb745 l0_0 l0_1 from HI745.out) HO755.out (by decide)) hk (fun _ h => h.2)) (fun _ h => h.1)); replace HB := Am hb; replace HI745 := Am hi; (try clear hb); (try clear hk); (try clear hi)))
         go_roundg k1
         case measure => have := HK1.out; omega
         case rel => exact ⟨(wrap64 (x7_1 + 1)), (x747000_1), (x747001_1), (by rfl), H', ⟨by have := HK1.out; omega⟩, ⟨by exact Kd.R_mono HO_6.out (fun _ hk => trivial)⟩, ⟨by exact BK746.out⟩, ⟨HI745.out⟩, ⟨HB.out⟩⟩
       ·rw [if_neg c25] at H
        have c25b0 : (t757 == 0) = false := beq_eq_false_iff_ne.mpr c25
        have c25b1 : (t757 != 0) = true := bne_iff_ne.mpr c25
        have H' := Am H
        clear H
        obtain ⟨Ao37, co37, eo37⟩ := Kd.R_slice HO_6.out
        subst eo37
        have p752 : 0 ≤ (x7_1 : Int) := od (by assumption)
        have q752 : x7_1 < (t749.length : Int) := od (by assumption)
        obtain ⟨ad752, e752, hx752_0⟩ := Kd.at_string (Kd.R_reads' HO_6.out).2.2 x7_1 p752 q752
        cases e752
        replace p752 := eq_true p752
        replace q752 := eq_true q752
        go_wp2_with (first | ((with_reducible refine gate_callee (f := 61) rfl ?_); refine goesL_ (some 35) rfl rfl Tryz.func61 (by kernel_rfl) rfl #[.string ((rdOf ByteArray.empty t749 x7_1).extract 1 (rdOf ByteArray.empty t749 x7_1).size), .int .u8 47] rfl (by (try simp only [List.map_toArray, List.map_cons, List.map_nil]); rfl) ?_; (with_reducible refine (q1t.calls k1 ((rdOf ByteArray.empty t749 x7_1).extract 1 (rdOf ByteArray.empty t749 x7_1).size) 47 t753 _ A23.out).mono ?_); rintro e w38 ⟨v754, rfl, ho0, hb⟩; refine ⟨_, rfl, ?_⟩; have HO755 := Am (Kd.R_lower (Kd.R_new' ho0 (Kd.R_lt HO_6.out)) (below_size HB.out)); replace HO_6 := Am (Kd.R_elder' HO_6.out (Kd.R_base ho0) hb); replace BK746 := Am (blk_below BK746.out hb); replace HI745 := Am (IsS28.below HI745.out hb); replace HB := Am (below_step HB.out hb); (try clear hb); (try clear ho0); obtain ⟨Ao39, co39, eo39⟩ := Kd.R_slice HO755.out; subst eo39) | ((with_reducible refine gate_callee (f := 60) rfl ?_); refine goesL_ (some 36) rfl rfl Tryz.func60 (by kernel_rfl) rfl #[.pointer (some ⟨gb745, 0, none⟩), .slice Ao39 t753.length co39] rfl (by (try simp only [List.map_toArray, List.map_cons, List.map_nil]); rfl) ?_; (with_reducible refine (q2d.calls k1 gb745 l0_0 l0_1 _ _ t753 t756 t757 w _ ?side1 ?side2 ?side3 ?side4 ?side5 A24.out).mono ?_); (case side1 => repeat ((with_reducible exact HI745.out))); (case side2 => repeat ((with_reducible exact HB.out))); (case side3 => repeat (exact (Kd.R_reads' HO755.out).2.2)); (case side4 => exact (Kd.R_reads' HO755.out).2.1); (case side5 => exact far_slice (IsS28.own_ne HI745.out HO755.out (by decide))); rintro e w40 ⟨rfl, hi, hb, hk⟩; refine ⟨_, rfl, ?_⟩; replace HO_6 := Am (Kd.R_mono (Kd.R_keep (IsS28.apart (show IsS28 w _ gb745 l0_0 l0_1 from HI745.out) HO_6.out (by decide)) hk (fun _ h => h.2)) (fun _ h => h.1)); replace BK746 := Am (KeepBut.blk hk BK746.out NB746_745.out (by simp)); replace HO755 := Am (Kd.R_mono (Kd.R_keep (IsS28.apart (show IsS28 w _ gb745 l0_0 l0_1 from HI745.out) HO755.out (by decide)) hk (fun _ h => h.2)) (fun _ h => h.1)); replace HB := Am hb; replace HI745 := Am hi; (try clear hb); (try clear hk); (try clear hi)))
        go_roundg k1
        case measure => have := HK1.out; omega
        case rel => exact ⟨(wrap64 (x7_1 + 1)), (x747000_1), (x747001_1), (by rfl), H', ⟨by have := HK1.out; omega⟩, ⟨by exact Kd.R_mono HO_6.out (fun _ hk => trivial)⟩, ⟨by exact BK746.out⟩, ⟨HI745.out⟩, ⟨HB.out⟩⟩
      ·rw [if_neg c20] at H
       have c20b0 : decide (x7_1 < (t749.length : Int)) = false := decide_eq_false c20
       clear c20
       simp only [Option.some.injEq, Prod.mk.injEq] at H
       obtain ⟨rfl, rfl⟩ := H
       obtain ⟨Ao41, co41, eo41⟩ := Kd.R_slice HO_6.out
       subst eo41
       have hnb42 := NB746_745.out
       have hnc42 := NB745_746.out
       obtain ⟨hcz43_0, hcz43_1, hfz43_0, hfz43_1⟩ := cb2 BK746.out
       go_wp2
       refine bodyPost_ret (results_cell_row rfl _ _ gb746 48 #[.int .i64 4, .string (⟨#[]⟩ : ByteArray)] (0, 0) _ rfl (by refine blk_put (cs := #[.int .i64 4, .string x747001_1]) ?_ 1 _ rfl; refine blk_put (cs := #[.int .i64 x747000_1, .string x747001_1]) ?_ 0 _ rfl; exact BK746.out) Tryz.underlying48 rfl (by kernel_rfl)) rfl ?_
       exact ⟨by rfl, by repeat ((with_reducible first | exact HB.out | refine below_set ?_ GE746.out))⟩
  ·replace c6 := Bool.eq_false_iff.mpr c6
   subst c6
   have H1 : (some (3, (⟨#[]⟩ : ByteArray))) = some (r1, r2) := by rw [if_neg (show ¬ (false = true) by decide)] at H; exact H
   clear H
   have H := H1
   clear H1
   simp only [Option.some.injEq, Prod.mk.injEq] at H
   obtain ⟨rfl, rfl⟩ := H
   go_enter Tryz.func18, Tryz.ntmps18
   go_wp2_with (first | ((with_reducible refine gate_dst (N := 2) rfl ?_); refine box_event ?hg (N := 2) ?hd (cs := #[.slice A0_0 l0_0.length c0_0, .slice A0_1 l0_1.length c0_1]) (t := 28) ?hr ?_; (case hd => rfl); (case hg => rfl); (case hr => (go_simp; done)); intro gb745 hg w44 hbox hb; have BK745 := Am hbox; have GW745 := Am ((nge hg HB.out)); have GE745 := Am ((nge hg HB.out)); replace HB := Am (below_step HB.out hb); clear hb hbox hg; have HI745 := Am (show IsS28 w w44 gb745 l0_0 l0_1 from ⟨A0_0, c0_0, A0_1, c0_1, BK745.out, GW745.out, ⟨HR0_0.out, HC0_0.out⟩, ⟨HR0_1.out, HC0_1.out⟩⟩)) | ((with_reducible refine gate_dst (N := 4) rfl ?_); refine box_event ?hg (N := 4) ?hd (cs := #[.int .i64 0, .string (⟨#[]⟩ : ByteArray)]) (t := 48) ?hr ?_; (case hd => rfl); (case hg => rfl); (case hr => (go_simp; done)); intro gb746 hg w45 hbox hb; have BK746 := Am hbox; have GW746 := Am ((nge hg HB.out)); have GE746 := Am ((nge hg HB.out)); replace HB := Am (below_step HB.out hb); have NB745_746 := Am ((by rw [hg]; exact Nat.ne_of_lt (IsS28.lt (show IsS28 w _ gb745 l0_0 l0_1 from HI745.out)) : gb745 ≠ gb746)); have NB746_745 := Am ((by rw [hg]; exact Nat.ne_of_gt (IsS28.lt (show IsS28 w _ gb745 l0_0 l0_1 from HI745.out)) : gb746 ≠ gb745)); replace HI745 := Am (IsS28.below HI745.out hb); clear hb hbox hg) | ((with_reducible refine gate_callee (f := 57) rfl ?_); refine goesL_ (some 10) rfl rfl Tryz.func57 (by kernel_rfl) rfl #[.pointer (some ⟨gb745, 0, none⟩)] rfl (by (try simp only [List.map_toArray, List.map_cons, List.map_nil]); rfl) ?_; (with_reducible refine (q25.calls k gb745 l0_0 l0_1 t747 w _ ?side1 ?side2 A3.out).mono ?_); (case side1 => repeat ((with_reducible exact HI745.out))); (case side2 => repeat ((with_reducible exact HB.out))); rintro e w46 ⟨rfl, hi, hb, hk⟩; refine ⟨_, rfl, ?_⟩; replace BK746 := Am (KeepBut.blk hk BK746.out NB746_745.out (by simp)); replace HB := Am hb; replace HI745 := Am hi; (try clear hb); (try clear hk); (try clear hi)) | ((with_reducible refine gate_callee (f := 58) rfl ?_); refine goesL_ (some 16) rfl rfl Tryz.func58 (by kernel_rfl) rfl #[.pointer (some ⟨gb745, 0, none⟩), .int .i64 a1] rfl (by (try simp only [List.map_toArray, List.map_cons, List.map_nil]); rfl) ?_; (with_reducible refine (q27.calls gb745 l0_0 l0_1 a1 false w _ ?side1 ?side2 A5.out).mono ?_); (case side1 => repeat ((with_reducible exact HI745.out))); (case side2 => repeat ((with_reducible exact HB.out))); rintro e w47 ⟨rfl, hi, hb, hk⟩; refine ⟨_, rfl, ?_⟩; replace BK746 := Am (KeepBut.blk hk BK746.out NB746_745.out (by simp)); replace HB := Am hb; replace HI745 := Am hi; (try clear hb); (try clear hk); (try clear hi); have hnb48 := NB746_745.out; have hnc48 := NB745_746.out; obtain ⟨hcz49_0, hcz49_1, hfz49_0, hfz49_1⟩ := cb2 BK746.out))
   refine bodyPost_ret (results_cell_row rfl _ _ gb746 48 #[.int .i64 3, .string (⟨#[]⟩ : ByteArray)] (0, 0) _ rfl (by refine blk_put (cs := #[.int .i64 3, .string (⟨#[]⟩ : ByteArray)]) ?_ 1 _ rfl; refine blk_put (cs := #[.int .i64 0, .string (⟨#[]⟩ : ByteArray)]) ?_ 0 _ rfl; exact BK746.out) Tryz.underlying48 rfl (by kernel_rfl)) rfl ?_
   exact ⟨by rfl, by repeat ((with_reducible first | exact HB.out | refine below_set ?_ GE746.out))⟩
 ·rw [if_neg c4] at H
  have c4b0 : (t747 == 0) = false := beq_eq_false_iff_ne.mpr c4
  have c4b1 : (t747 != 0) = true := bne_iff_ne.mpr c4
  simp only [Option.some.injEq, Prod.mk.injEq] at H
  obtain ⟨rfl, rfl⟩ := H
  go_enter Tryz.func18, Tryz.ntmps18
  go_wp2_with (first | ((with_reducible refine gate_dst (N := 2) rfl ?_); refine box_event ?hg (N := 2) ?hd (cs := #[.slice A0_0 l0_0.length c0_0, .slice A0_1 l0_1.length c0_1]) (t := 28) ?hr ?_; (case hd => rfl); (case hg => rfl); (case hr => (go_simp; done)); intro gb745 hg w50 hbox hb; have BK745 := Am hbox; have GW745 := Am ((nge hg HB.out)); have GE745 := Am ((nge hg HB.out)); replace HB := Am (below_step HB.out hb); clear hb hbox hg; have HI745 := Am (show IsS28 w w50 gb745 l0_0 l0_1 from ⟨A0_0, c0_0, A0_1, c0_1, BK745.out, GW745.out, ⟨HR0_0.out, HC0_0.out⟩, ⟨HR0_1.out, HC0_1.out⟩⟩)) | ((with_reducible refine gate_dst (N := 4) rfl ?_); refine box_event ?hg (N := 4) ?hd (cs := #[.int .i64 0, .string (⟨#[]⟩ : ByteArray)]) (t := 48) ?hr ?_; (case hd => rfl); (case hg => rfl); (case hr => (go_simp; done)); intro gb746 hg w51 hbox hb; have BK746 := Am hbox; have GW746 := Am ((nge hg HB.out)); have GE746 := Am ((nge hg HB.out)); replace HB := Am (below_step HB.out hb); have NB745_746 := Am ((by rw [hg]; exact Nat.ne_of_lt (IsS28.lt (show IsS28 w _ gb745 l0_0 l0_1 from HI745.out)) : gb745 ≠ gb746)); have NB746_745 := Am ((by rw [hg]; exact Nat.ne_of_gt (IsS28.lt (show IsS28 w _ gb745 l0_0 l0_1 from HI745.out)) : gb746 ≠ gb745)); replace HI745 := Am (IsS28.below HI745.out hb); clear hb hbox hg) | ((with_reducible refine gate_callee (f := 57) rfl ?_); refine goesL_ (some 10) rfl rfl Tryz.func57 (by kernel_rfl) rfl #[.pointer (some ⟨gb745, 0, none⟩)] rfl (by (try simp only [List.map_toArray, List.map_cons, List.map_nil]); rfl) ?_; (with_reducible refine (q25.calls k gb745 l0_0 l0_1 t747 w _ ?side1 ?side2 A3.out).mono ?_); (case side1 => repeat ((with_reducible exact HI745.out))); (case side2 => repeat ((with_reducible exact HB.out))); rintro e w52 ⟨rfl, hi, hb, hk⟩; refine ⟨_, rfl, ?_⟩; replace BK746 := Am (KeepBut.blk hk BK746.out NB746_745.out (by simp)); replace HB := Am hb; replace HI745 := Am hi; (try clear hb); (try clear hk); (try clear hi); have hnb53 := NB746_745.out; have hnc53 := NB745_746.out; obtain ⟨hcz54_0, hcz54_1, hfz54_0, hfz54_1⟩ := cb2 BK746.out))
  refine bodyPost_ret (results_cell_row rfl _ _ gb746 48 #[.int .i64 t747, .string (⟨#[]⟩ : ByteArray)] (0, 0) _ rfl (by refine blk_put (cs := #[.int .i64 t747, .string (⟨#[]⟩ : ByteArray)]) ?_ 1 _ rfl; refine blk_put (cs := #[.int .i64 0, .string (⟨#[]⟩ : ByteArray)]) ?_ 0 _ rfl; exact BK746.out) Tryz.underlying48 rfl (by kernel_rfl)) rfl ?_
  exact ⟨by rfl, by repeat ((with_reducible first | exact HB.out | refine below_set ?_ GE746.out))⟩
end Go.Proofs.YtafhjhdohclchaaGreatDoor.G
namespace Go.Proofs.YtafhjhdohclchaaGreatDoor.G
open Go.RowKit Go.Proofs.YtafhjhdohclchaaGreatDoorW.PrintWords Go.Proofs.YtafhjhdohclchaaGreatDoorW.PrintLast Go.Proofs.YtafhjhdohclchaaGreatDoorW.PrintMore
attribute [local go_sem] min2_int min_two
theorem rdS_eq (xs : List ByteArray) (i : Nat) (h : i < xs.length) : rdOf ByteArray.empty xs (i : Int) = xs[i] := by simp [rdOf, List.getD_eq_getElem?_getD, List.getElem?_eq_getElem h]
section
variable {ins : List S86} {data : List (List Int)}
theorem paths_spec (hok : ∀ x ∈ ins, InodeOK x) (he : ∀ x ∈ ins, ∀ e ∈ x.f4, EntOK ins e) (hpos : 0 < ins.length) : Ev (fun k => q2c.f k ins data) ((ownsL ins).map pathB) := by
  have h : Ev (fun k => q2b.f k ins data 0 (⟨#[]⟩ : ByteArray) 6) ((belowN ins 6 0 []).map pathB) := l9_ev hok he 6 (by omega) 0 [] (by omega) (by omega) (by simp) (by simp)
  unfold q2c.f
  refine Ev.bind h ?_
  rw [ownsL, List.map_take]
  by_cases hl : (((belowN ins 6 0 []).map pathB).length : Int) > 60
  · exact Ev.ip hl (Ev.ip (by omega) (Ev.now _))
  · have e := List.take_of_length_le (show ((belowN ins 6 0 []).map pathB).length ≤ 60 by omega)
    refine Ev.im hl ?_
    rw [e]
    exact Ev.now _
/-- a name that is right has no code -/
theorem name_ok0 (s : ByteArray) (h : NameOK s) : Ev (fun k => qi.f k s) 0 := by
  have hl : ∀ (d i : Nat), s.size = i + d → Ev (fun k => qi.l0 k s (s.size : Int) (i : Int)) 0 := by
    have h4 := h.2.1
    intro d
    induction d with
    | zero => exact fun i hi => Ev.step (fun k => qi.l0.eq_2 ..) (Ev.im (by omega) (Ev.im (by omega) (Ev.now _)))
    | succ d ih =>
      intro i hi
      have hi2 : i < s.data.toList.length := by rw [← size_len]; omega
      have hb := bt_get s i hi2
      have hr := h.2.2 _ (List.getElem_mem hi2)
      have hn := ih (i + 1) (by omega)
      rw [← w1 i (by omega)] at hn
      exact Ev.step (fun k => qi.l0.eq_2 ..) (Ev.ip (by omega) (Ev.ip (by omega) (Ev.ip (by omega) (Ev.im (by omega) (Ev.im (by omega) hn)))))
  unfold qi.f
  refine Ev.im ?_ (hl s.size 0 (by omega))
  rw [toList_data]
  intro e
  have := h.1
  rw [size_len, e] at this
  simp at this
theorem no_slash {s : ByteArray} (h : NameOK s) : ∀ b ∈ s.data.toList, b ≠ 47 := by
  intro b hb e
  have := (h.2.2 b hb).1
  rw [e] at this
  exact absurd this (by decide)
theorem cut_names (x : ByteArray) (r : List ByteArray) (hok : ∀ s ∈ x :: r, NameOK s) : cutL 47 (Lib.join (x.data.toList :: nb r) [47]) = nb (x :: r) := by
  refine cut_join (nb r) x.data.toList ?_
  intro n hn b hb
  obtain ⟨s, hs, rfl⟩ := List.mem_map.1 (show n ∈ (x :: r).map (·.data.toList) from hn)
  exact no_slash (hok s hs) b hb
theorem join_last : ∀ (l : List ByteArray) (y : ByteArray), (∀ s ∈ y :: l, NameOK s) → ∃ q b, Lib.join (y.data.toList :: nb l) [47] = q ++ [b] ∧ b ≠ 47
  | [], y, hy => by
    have h1 := hy y (by simp)
    have hne : y.data.toList ≠ [] := fun e => by have := h1.1; rw [size_len, e] at this; simp at this
    refine ⟨y.data.toList.dropLast, y.data.toList.getLast hne, ?_, no_slash h1 _ (List.getLast_mem hne)⟩
    rw [show nb ([] : List ByteArray) = [] from rfl, Lib.join_one, List.dropLast_concat_getLast]
  | z :: l, y, hy => by
    obtain ⟨q, b, h1, h2⟩ := join_last l z (fun s hs => hy s (by simp at hs ⊢; exact .inr hs))
    refine ⟨y.data.toList ++ 47 :: q, b, ?_, h2⟩
    have e : Lib.join (y.data.toList :: nb (z :: l)) [47] = y.data.toList ++ 47 :: Lib.join (z.data.toList :: nb l) [47] := by
      rw [pathL_join, show nb (z :: l) = z.data.toList :: nb l from rfl, Lib.join_cons]
      simp [pathL, Lib.joinTail, List.flatMap]
    rw [e, h1]
    simp
theorem pathB_data (x : ByteArray) (r : List ByteArray) : (pathB (x :: r)).data.toList = 47 :: Lib.join (x.data.toList :: nb r) [47] := by rw [pathB, bs_data, show nb (x :: r) = x.data.toList :: nb r from rfl, pathL_join]
theorem pathB_rest (x : ByteArray) (r : List ByteArray) : (pathB (x :: r)).extract 1 (pathB (x :: r)).size = bs (Lib.join (x.data.toList :: nb r) [47]) := by
  rw [extract_bs, size_len, pathB_data, List.drop_one, List.tail_cons, List.take_of_length_le (by simp)]
theorem pathB_pre (x : ByteArray) (r : List ByteArray) : q2e.f (pathB (x :: r)) (⟨#[47]⟩ : ByteArray) = some true := by
  have hs : (pathB (x :: r)).size = (Lib.join (x.data.toList :: nb r) [47]).length + 1 := by rw [size_len, pathB_data, List.length_cons]
  unfold q2e.f q2j.f
  have e1 : ((⟨#[47]⟩ : ByteArray).size : Int) = 1 := rfl
  rw [e1, if_pos (by omega), if_pos (by omega), if_pos (by omega)]
  have e2 : (pathB (x :: r)).extract 0 ((1 : Int).toNat) = bs [47] := by rw [extract_bs, pathB_data]; rfl
  rw [e2, toList_data, toList_data, bs_data]
  rfl
theorem pathB_suf (x : ByteArray) (r : List ByteArray) (hok : ∀ s ∈ x :: r, NameOK s) (hl : (pathB (x :: r)).size ≤ 1000) : q2f.f (pathB (x :: r)) (⟨#[47]⟩ : ByteArray) = some false := by
  obtain ⟨q, b, hq, hb⟩ := join_last r x hok
  have hs : (pathB (x :: r)).size = q.length + 2 := by rw [size_len, pathB_data, hq]; simp
  unfold q2f.f q2k.f
  have e1 : ((⟨#[47]⟩ : ByteArray).size : Int) = 1 := rfl
  have e3 : wrap64 (((pathB (x :: r)).size : Int) - 1) = ((q.length + 1 : Nat) : Int) := by rw [w64_id _ (by omega) (by omega)]; omega
  rw [e1, if_pos (by omega), e3, if_pos (by omega), if_pos (by omega), Int.toNat_natCast]
  have e2 : (pathB (x :: r)).extract (q.length + 1) (pathB (x :: r)).size = bs [b] := by
    rw [extract_bs, pathB_data, hq]
    have : (47 :: (q ++ [b])).drop (q.length + 1) = [b] := by
      rw [show 47 :: (q ++ [b]) = (47 :: q) ++ [b] from rfl, List.drop_left' (by simp)]
    rw [this, List.take_of_length_le (by simp; omega)]
  rw [e2]
  have : ((bs [b]).toList == (⟨#[47]⟩ : ByteArray).toList) = false := by
    rw [toList_data, toList_data, bs_data]
    show ([b] == [47]) = false
    simpa using hb
  rw [this]
  rfl
/-- a path that is told is cut into its names again -/
theorem split_own (own : List ByteArray) (hne : own ≠ []) (h6 : own.length ≤ 6) (hok : ∀ s ∈ own, NameOK s) :
    Ev (fun k => qn.f k (pathB own)) (own, 0) ∧ Ev (fun k => q1t.f k ((pathB own).extract 1 (pathB own).size) 47) own ∧ 1 ≤ ((pathB own).size : Int) ∧ (pathB own).size ≤ 30 := by
  have hsz := pathB_size own (fun s hs => (hok s hs).2.1)
  obtain ⟨x, r, rfl⟩ := List.exists_cons_of_ne_nil hne
  have h30 : (pathB (x :: r)).size ≤ 30 := by simp only [List.length_cons] at hsz h6; omega
  have hlen : (pathB (x :: r)).size = (Lib.join (x.data.toList :: nb r) [47]).length + 1 := by rw [size_len, pathB_data, List.length_cons]
  have hex := pathB_rest x r
  have hexs : ((pathB (x :: r)).extract 1 (pathB (x :: r)).size).size ≤ 1048576 := by rw [hex, bs_size]; omega
  have hsplit := split_tells _ 47 hexs
  have hl3 := l3Cut_tells _ 47 hexs
  rw [hex, bs_data, cut_names x r hok, bs_nb] at hsplit hl3
  refine ⟨?_, by rw [hex]; exact hl3, by omega, h30⟩
  have hloop : ∀ (d i : Nat), (x :: r).length = i + d → Ev (fun k => qn.l0 k (x :: r) (x :: r) ((x :: r).length : Int) (i : Int)) (x :: r, 0) := by
    intro d
    induction d with
    | zero => exact fun i hi => Ev.step (fun k => qn.l0.eq_2 ..) (Ev.im (by omega) (Ev.now _))
    | succ d ih =>
      intro i hi
      have hi2 : i < (x :: r).length := by omega
      have hn0 := name_ok0 _ (hok _ (List.getElem_mem hi2))
      rw [← rdS_eq (x :: r) i hi2] at hn0
      have hn := ih (i + 1) (by omega)
      rw [← w1 i (by omega)] at hn
      exact Ev.step (fun k => qn.l0.eq_2 ..) (Ev.ip (by omega) (Ev.ip (by omega) (Ev.ip (by omega) (Ev.bind hn0 (Ev.ip rfl hn)))))
  have hj0 : Ev (fun k => qn.j0 k (pathB (x :: r)) false) (x :: r, 0) := by
    refine Ev.step (fun k => qn.j0.eq_2 ..) (Ev.im (by simp) (Ev.ip (by omega) ?_))
    rw [hex]
    exact Ev.bind hsplit (Ev.im (by omega) (hloop (x :: r).length 0 (by omega)))
  obtain ⟨q, b, hq, hb⟩ := join_last r x hok
  unfold qn.f
  refine Ev.im (by omega) (Ev.im ?_ (Ev.bind (Ev.val fun _ => pathB_pre x r) (Ev.ip rfl (Ev.bind (Ev.val fun _ => pathB_suf x r hok (by omega)) hj0))))
  rw [toList_data, pathB_data, hq]
  simp
def lookE (n : ByteArray) : List S143 → Option S143
  | [] => none
  | e :: r => if e.f0.toList = n.toList then some e else lookE n r
theorem lookE_mem {n : ByteArray} : ∀ {es : List S143} {e : S143}, lookE n es = some e → e ∈ es
  | [], e, h => by cases h
  | x :: r, e, h => by
    rw [lookE] at h
    split at h
    · injection h with h; subst h; simp
    · exact List.mem_cons_of_mem _ (lookE_mem h)
def walkN (ins : List S86) : List ByteArray → Int → Int × Int
  | [], at_ => (at_, 0)
  | n :: r, at_ => if (rd_T86 ins at_).f0 = 2 then (match lookE n (rd_T86 ins at_).f4 with | none => (0, 4) | some e => walkN ins r e.f1) else (0, 9)
theorem walkN_zero : ∀ (names : List ByteArray) (at_ : Int), (walkN ins names at_).2 ≠ 0 → (walkN ins names at_).1 = 0
  | [], _, h => absurd rfl h
  | n :: r, at_, h => by
    rw [walkN] at h ⊢
    split at h
    · rename_i h2
      rw [if_pos h2]
      cases hl : lookE n (rd_T86 ins at_).f4 with
      | none => rfl
      | some e => rw [hl] at h; exact walkN_zero r e.f1 h
    · rename_i h2
      rw [if_neg h2]
theorem look_loop (n : ByteArray) (es : List S143) (hl : es.length ≤ 1000) : ∀ (d i : Nat), es.length = i + d →
    Ev (fun k => q0.l0 k n es (es.length : Int) (i : Int)) (match lookE n (es.drop i) with | none => -1 | some e => e.f1) := by
  intro d
  induction d with
  | zero =>
    intro i he
    rw [List.drop_of_length_le (by omega)]
    exact Ev.step (fun k => q0.l0.eq_2 ..) (Ev.im (by omega) (Ev.now _))
  | succ d ih =>
    intro i he
    have hi : i < es.length := by omega
    rw [List.drop_eq_getElem_cons hi, lookE, ← rdE_eq es i hi]
    by_cases h : (rd_T143 es (i : Int)).f0.toList = n.toList
    · rw [if_pos h]
      exact Ev.step (fun k => q0.l0.eq_2 ..) (Ev.ip (by omega) (Ev.ip (by omega) (Ev.ip (by omega) (Ev.ip h (Ev.now _)))))
    · rw [if_neg h]
      have := ih (i + 1) (by omega)
      rw [← w1 i (by omega)] at this
      exact Ev.step (fun k => q0.l0.eq_2 ..) (Ev.ip (by omega) (Ev.ip (by omega) (Ev.ip (by omega) (Ev.im h this))))
theorem l8At_loop (n : ByteArray) (es : List S143) (hl : es.length ≤ 1000) : ∀ (d i : Nat), es.length = i + d →
    ∃ m : Int, Ev (fun k => q2a.l0 k es n (i : Int)) m ∧ ((lookE n (es.drop i) = none ∧ m = -1) ∨ (0 ≤ m ∧ m < (es.length : Int) ∧ lookE n (es.drop i) = some (rd_T143 es m))) := by
  intro d
  induction d with
  | zero =>
    intro i he
    rw [List.drop_of_length_le (by omega)]
    exact ⟨-1, Ev.step (fun k => q2a.l0.eq_2 ..) (Ev.im (by omega) (Ev.now _)), .inl ⟨rfl, rfl⟩⟩
  | succ d ih =>
    intro i he
    have hi : i < es.length := by omega
    rw [List.drop_eq_getElem_cons hi, lookE, ← rdE_eq es i hi]
    by_cases h : (rd_T143 es (i : Int)).f0.toList = n.toList
    · rw [if_pos h]
      exact ⟨i, Ev.step (fun k => q2a.l0.eq_2 ..) (Ev.ip (by omega) (Ev.ip (by omega) (Ev.ip h (Ev.now _)))), .inr ⟨by omega, by omega, rfl⟩⟩
    · rw [if_neg h]
      obtain ⟨m, ha, hp⟩ := ih (i + 1) (by omega)
      rw [← w1 i (by omega)] at ha
      exact ⟨m, Ev.step (fun k => q2a.l0.eq_2 ..) (Ev.ip (by omega) (Ev.ip (by omega) (Ev.im h ha))), hp⟩
theorem walk_loop (hok : ∀ x ∈ ins, InodeOK x) (he : ∀ x ∈ ins, ∀ e ∈ x.f4, EntOK ins e) (names : List ByteArray) (hl : names.length ≤ 1000000) : ∀ (d i : Nat) (at_ : Int), names.length = i + d → 0 ≤ at_ → at_ < (ins.length : Int) →
    Ev (fun k => q3.l0 k at_ names (names.length : Int) (i : Int) ins data) (walkN ins (names.drop i) at_) ∧ Ev (fun k => q2d.l0 k names at_ (i : Int) ins data) (walkN ins (names.drop i) at_) := by
  intro d
  induction d with
  | zero =>
    intro i at_ hd h0 h1
    rw [List.drop_of_length_le (by omega)]
    exact ⟨Ev.step (fun k => q3.l0.eq_2 ..) (Ev.im (by omega) (Ev.now _)), Ev.step (fun k => q2d.l0.eq_2 ..) (Ev.im (by omega) (Ev.now _))⟩
  | succ d ih =>
    intro i at_ hd h0 h1
    have hi : i < names.length := by omega
    have hm := es_le hok at_ h0 h1
    have h6 := (hok _ hm).es.1
    rw [List.drop_eq_getElem_cons hi, walkN, ← rdS_eq names i hi]
    by_cases h2 : (rd_T86 ins at_).f0 = 2
    case neg =>
      rw [if_neg h2]
      exact ⟨Ev.step (fun k => q3.l0.eq_2 ..) (Ev.ip (by omega) (Ev.ip (by omega) (Ev.ip (by omega) (Ev.ip h0 (Ev.ip h1 (Ev.im h2 (Ev.now _))))))), Ev.step (fun k => q2d.l0.eq_2 ..) (Ev.ip (by omega) (Ev.ip h0 (Ev.ip h1 (Ev.im h2 (Ev.now _)))))⟩
    rw [if_pos h2]
    have hlk : Ev (fun k => q0.f k ins data at_ (rdOf ByteArray.empty names (i : Int))) (match lookE (rdOf ByteArray.empty names (i : Int)) (rd_T86 ins at_).f4 with | none => -1 | some e => e.f1) := by
      have := look_loop (rdOf ByteArray.empty names (i : Int)) (rd_T86 ins at_).f4 (by omega) (rd_T86 ins at_).f4.length 0 (by omega)
      unfold q0.f
      exact Ev.ip h0 (Ev.ip h1 (by simpa using this))
    obtain ⟨m, hma, hmp⟩ := l8At_loop (rdOf ByteArray.empty names (i : Int)) (rd_T86 ins at_).f4 (by omega) (rd_T86 ins at_).f4.length 0 (by omega)
    have hma' : Ev (fun k => q2a.f k (rd_T86 ins at_).f4 (rdOf ByteArray.empty names (i : Int))) m := by unfold q2a.f; exact hma
    rw [List.drop_zero] at hmp
    rcases hmp with ⟨hn, rfl⟩ | ⟨hm0, hm1, hs⟩
    · rw [hn] at hlk ⊢
      simp only at hlk ⊢
      exact ⟨Ev.step (fun k => q3.l0.eq_2 ..) (Ev.ip (by omega) (Ev.ip (by omega) (Ev.ip (by omega) (Ev.ip h0 (Ev.ip h1 (Ev.ip h2 (Ev.bind hlk (Ev.ip (by omega) (Ev.now _))))))))), Ev.step (fun k => q2d.l0.eq_2 ..) (Ev.ip (by omega) (Ev.ip h0 (Ev.ip h1 (Ev.ip h2 (Ev.ip (by omega) (Ev.bind hma' (Ev.ip (by omega) (Ev.now _))))))))⟩
    · rw [hs] at hlk ⊢
      simp only at hlk ⊢
      have hent := he _ hm _ (lookE_mem hs)
      obtain ⟨ia, ib⟩ := ih (i + 1) (rd_T143 (rd_T86 ins at_).f4 m).f1 (by omega) hent.1 hent.2.1
      rw [← w1 i (by omega)] at ia ib
      have hnn : ¬ (rd_T143 (rd_T86 ins at_).f4 m).f1 < 0 := by have := hent.1; omega
      exact ⟨Ev.step (fun k => q3.l0.eq_2 ..) (Ev.ip (by omega) (Ev.ip (by omega) (Ev.ip (by omega) (Ev.ip h0 (Ev.ip h1 (Ev.ip h2 (Ev.bind hlk (Ev.im hnn ia)))))))), Ev.step (fun k => q2d.l0.eq_2 ..) (Ev.ip (by omega) (Ev.ip h0 (Ev.ip h1 (Ev.ip h2 (Ev.ip (by omega) (Ev.bind hma' (Ev.im (by omega) (Ev.ip hm0 (Ev.ip hm1 ib)))))))))⟩
theorem own_facts (hok : ∀ x ∈ ins, InodeOK x) (he : ∀ x ∈ ins, ∀ e ∈ x.f4, EntOK ins e) (hpos : 0 < ins.length) (own : List ByteArray) (h : own ∈ ownsL ins) : own ≠ [] ∧ own.length ≤ 6 ∧ ∀ s ∈ own, NameOK s := by
  have := below_names hok he 6 0 [] own (by omega) (by omega) (by simp) (List.mem_of_mem_take h)
  simpa using this
theorem walk_own (hok : ∀ x ∈ ins, InodeOK x) (he : ∀ x ∈ ins, ∀ e ∈ x.f4, EntOK ins e) (hpos : 0 < ins.length) (own : List ByteArray) (h : own ∈ ownsL ins) :
    Ev (fun k => q2.f k ins data (pathB own)) (walkN ins own 0) ∧ Ev (fun k => q2d.f k ins data own) (walkN ins own 0) := by
  obtain ⟨h1, h2, h3⟩ := own_facts hok he hpos own h
  obtain ⟨s1, _⟩ := split_own own h1 h2 h3
  obtain ⟨w1, w2⟩ := walk_loop (data := data) hok he own (by omega) own.length 0 0 (by omega) (by omega) (by omega)
  rw [List.drop_zero] at w1 w2
  refine ⟨?_, by unfold q2d.f; exact w2⟩
  unfold q2.f
  have w1' : Ev (fun k => q3.f k ins data own) (walkN ins own 0) := by unfold q3.f; exact w1
  exact Ev.bind s1 (Ev.ip rfl (Ev.bind w1' (Ev.now _)))
theorem pathOf_loop (hok : ∀ x ∈ ins, InodeOK x) (he : ∀ x ∈ ins, ∀ e ∈ x.f4, EntOK ins e) (hpos : 0 < ins.length) (a : Int) (ha : a ≠ 0) : ∀ (d i : Nat), (ownsL ins).length = i + d →
    ∃ r : Int × ByteArray, Ev (fun k => q1.l0 k a ((ownsL ins).map pathB) (((ownsL ins).map pathB).length : Int) (i : Int) ins data) (r.2, r.1) ∧ Ev (fun k => q1q.l0 k a ((ownsL ins).map pathB) (i : Int) ins data) r := by
  have h60 : (ownsL ins).length ≤ 60 := by unfold ownsL; exact List.length_take_le _ _
  intro d
  induction d with
  | zero =>
    intro i hd
    exact ⟨(4, ⟨#[]⟩), Ev.step (fun k => q1.l0.eq_2 ..) (Ev.im (by rw [List.length_map]; omega) (Ev.now _)), Ev.step (fun k => q1q.l0.eq_2 ..) (Ev.im (by rw [List.length_map]; omega) (Ev.now _))⟩
  | succ d ih =>
    intro i hd
    have hi : i < (ownsL ins).length := by omega
    have hr : rdOf ByteArray.empty ((ownsL ins).map pathB) (i : Int) = pathB (ownsL ins)[i] := by rw [rdS_eq _ i (by simpa using hi)]; simp
    have hmem := List.getElem_mem hi
    obtain ⟨h1, h2, h3⟩ := own_facts hok he hpos _ hmem
    obtain ⟨_, s2, s3, _⟩ := split_own _ h1 h2 h3
    obtain ⟨wa, wb⟩ := walk_own (data := data) hok he hpos _ hmem
    obtain ⟨r, ia, ib⟩ := ih (i + 1) (by omega)
    rw [← w1 i (by omega)] at ia ib
    rw [← hr] at s2 s3 wa
    by_cases hc : (walkN ins (ownsL ins)[i] 0).2 = 0
    · by_cases hq : (walkN ins (ownsL ins)[i] 0).1 = a
      · exact ⟨(0, rdOf ByteArray.empty ((ownsL ins).map pathB) (i : Int)), Ev.step (fun k => q1.l0.eq_2 ..) (Ev.ip (by rw [List.length_map]; omega) (Ev.ip (by omega) (Ev.ip (by rw [List.length_map]; omega) (Ev.bind wa (Ev.ip hq (Ev.now _)))))), Ev.step (fun k => q1q.l0.eq_2 ..) (Ev.ip (by rw [List.length_map]; omega) (Ev.ip (by omega) (Ev.ip s3 (Ev.bind s2 (Ev.bind wb (Ev.ip hc (Ev.ip hq (Ev.now _))))))))⟩
      · exact ⟨r, Ev.step (fun k => q1.l0.eq_2 ..) (Ev.ip (by rw [List.length_map]; omega) (Ev.ip (by omega) (Ev.ip (by rw [List.length_map]; omega) (Ev.bind wa (Ev.im hq ia))))), Ev.step (fun k => q1q.l0.eq_2 ..) (Ev.ip (by rw [List.length_map]; omega) (Ev.ip (by omega) (Ev.ip s3 (Ev.bind s2 (Ev.bind wb (Ev.ip hc (Ev.im hq ib)))))))⟩
    · have hz := walkN_zero _ _ hc
      have hq : ¬ (walkN ins (ownsL ins)[i] 0).1 = a := by rw [hz]; exact fun e => ha e.symm
      exact ⟨r, Ev.step (fun k => q1.l0.eq_2 ..) (Ev.ip (by rw [List.length_map]; omega) (Ev.ip (by omega) (Ev.ip (by rw [List.length_map]; omega) (Ev.bind wa (Ev.im hq ia))))), Ev.step (fun k => q1q.l0.eq_2 ..) (Ev.ip (by rw [List.length_map]; omega) (Ev.ip (by omega) (Ev.ip s3 (Ev.bind s2 (Ev.bind wb (Ev.im hc ib))))))⟩
/-- in a file system that is whole: the place's path, the program's way and the reference's -/
theorem pathOf_in (hF : FsOK ins data) (a : Int) : ∃ r : Int × ByteArray, Ev (fun k => q1.f k ins data a) (r.2, r.1) ∧ Ev (fun k => (q27.f ins data a).bind fun t748 => (if t748 = true then (if a = 0 then (some (0, (⟨#[47]⟩ : ByteArray))) else ((q2c.f k ins data).bind fun t749 => (q1q.l0 k a t749 0 ins data))) else (some (3, (⟨#[]⟩ : ByteArray))))) r := by
  have hn : ∀ k : Nat, q4.f ins = some (ins.length : Int) := fun _ => rfl
  have hpl : ∀ k : Nat, q27.f ins data a = some (inB a 0 (wrap64 ((ins.length : Int) - 1))) := fun _ => by unfold q27.f; rw [l1In_eq]; rfl
  unfold q1.f
  cases hin : inB a 0 (wrap64 ((ins.length : Int) - 1)) with
  | false =>
    rw [hin] at hpl
    exact ⟨(3, ⟨#[]⟩), Ev.bind (Ev.val hn) (Ev.bind (Ev.val fun _ => within_eq ..) (Ev.im (by rw [hin]; simp) (Ev.now _))), Ev.bind (Ev.val hpl) (Ev.im (by simp) (Ev.now _))⟩
  | true =>
    rw [hin] at hpl
    by_cases ha0 : a = 0
    · exact ⟨(0, ⟨#[47]⟩), Ev.bind (Ev.val hn) (Ev.bind (Ev.val fun _ => within_eq ..) (Ev.ip hin (Ev.ip ha0 (Ev.now _)))), Ev.bind (Ev.val hpl) (Ev.ip rfl (Ev.ip ha0 (Ev.now _)))⟩
    · obtain ⟨r, la, lb⟩ := pathOf_loop (data := data) hF.ino hF.ents hF.pos a ha0 (ownsL ins).length 0 (by omega)
      exact ⟨r, Ev.bind (Ev.val hn) (Ev.bind (Ev.val fun _ => within_eq ..) (Ev.ip hin (Ev.im ha0 (Ev.bind (paths_impl hF.ino hF.ents hF.pos) la)))), Ev.bind (Ev.val hpl) (Ev.ip rfl (Ev.im ha0 (Ev.bind (paths_spec hF.ino hF.ents hF.pos) lb)))⟩
theorem pathOf_both (hs : ∀ x ∈ ins, SzI x) (a : Int) : ∃ r : Int × ByteArray, Ev (fun k => q5.f k ins data a) r ∧ Ev (fun k => q1q.f k ins data a) r := by
  obtain ⟨t, fa, fb, fp⟩ := fs_both ins data hs
  unfold q5.f q1q.f
  by_cases ht : t = 0
  case neg => exact ⟨(t, ⟨#[]⟩), Ev.bind fa (Ev.im ht (Ev.now _)), Ev.bind fb (Ev.im ht (Ev.now _))⟩
  obtain ⟨r, ha, hb⟩ := pathOf_in (fp ht) a
  exact ⟨r, Ev.bind fa (Ev.ip ht (Ev.bind ha (Ev.now _))), Ev.bind fb (Ev.ip ht hb)⟩
end
end Go.Proofs.YtafhjhdohclchaaGreatDoor.G
namespace Go.Proofs.YtafhjhdohclchaaGreatDoor.G
open Go.RowKit Go.Proofs.YtafhjhdohclchaaGreatDoorW.PrintWords Go.Proofs.YtafhjhdohclchaaGreatDoorW.PrintLast Go.Proofs.YtafhjhdohclchaaGreatDoorW.PrintMore
attribute [local go_sem] min2_int min_two
attribute [local go_sem high] str_leq
attribute [local go_sem] binOp_string_geq
def qs.f (k : Nat) (l0_0 : List (S159)) (l0_1 : List (List Int)) (a1 : Int) : Option (Bool) := (q16.f k l0_0 l0_1 1048576).bind fun t859 => (if t859 < 0 then (some true) else ((q1e.f k l0_0 l0_1).bind fun bt860 => ((q1q.f k bt860.1 bt860.2 a1).bind fun bt866 => ((q1e.f k l0_0 l0_1).bind fun bt869 => ((q5.f k bt869.1 bt869.2 a1).bind fun bt876 => ((q11.f bt876.1 bt876.2 bt866.1 bt866.2).bind fun t879 => (if t879 = true then ((q1e.f k l0_0 l0_1).bind fun bt880 => ((qx.f k bt869.1 bt869.2 bt880.1 bt880.2).bind fun t886 => (if t886 = true then (some true) else (some false)))) else (some false))))))))
theorem qs.mono : ∀ a0 a1 a2 k, LeO (qs.f k a0 a1 a2) (qs.f (k + 1) a0 a1 a2) := by
 intro a0 a1 a2 k
 unfold qs.f
 repeat' first | (with_reducible exact q5.mono _ _ _ _) | (with_reducible exact qx.mono _ _ _ _ _) | (with_reducible exact q16.mono _ _ _ _) | (with_reducible exact q1e.mono _ _ _) | (with_reducible exact q1q.mono _ _ _ _) | (with_reducible exact LeO.refl _) | (with_reducible refine LeO.ite ?_ ?_) | (with_reducible refine LeO.bind ?_ (fun _ => ?_))
set_option maxHeartbeats 8000000 in
set_option maxRecDepth 100000 in
theorem qs.calls (k : Nat) (A0_0 : Option Addr) (c0_0 : Nat) (l0_0 : List (S159)) (A0_1 : Option Addr) (c0_1 : Nat) (l0_1 : List (List Int)) (a1 : Int) (r : Bool) (w : World) (hr0_0 : Kd.C k159 w A0_0 l0_0.length l0_0) (hc0_0 : l0_0.length ≤ c0_0) (hr0_1 : Kd.C (Kd.slice 5 (Kd.int .u8)) w A0_1 l0_1.length l0_1) (hc0_1 : l0_1.length ≤ c0_1) (h : qs.f k l0_0 l0_1 a1 = some true) :
  Calls Tryz.prog 4 #[.agg #[.slice A0_0 l0_0.length c0_0, .slice A0_1 l0_1.length c0_1], .int .i64 a1] w fun e w' => e = .returned (.bool true) ∧ Below w.heap.size w w' := by
 have hu45 := Tryz.underlying45
 have hu48 := Tryz.underlying48
 have hu28 := Tryz.underlying28
 have HR0_0 := Am hr0_0
 have HC0_0 := Am hc0_0
 clear hr0_0 hc0_0
 have HR0_1 := Am hr0_1
 have HC0_1 := Am hc0_1
 clear hr0_1 hc0_1
 have HB := Am (Below.refl w.heap.size w)
 have H : ((q16.f k l0_0 l0_1 1048576).bind fun t859 => (if t859 < 0 then (some true) else ((q1e.f k l0_0 l0_1).bind fun bt860 => ((q1q.f k bt860.1 bt860.2 a1).bind fun bt866 => ((q1e.f k l0_0 l0_1).bind fun bt869 => ((q5.f k bt869.1 bt869.2 a1).bind fun bt876 => ((q11.f bt876.1 bt876.2 bt866.1 bt866.2).bind fun t879 => (if t879 = true then ((q1e.f k l0_0 l0_1).bind fun bt880 => ((qx.f k bt869.1 bt869.2 bt880.1 bt880.2).bind fun t886 => (if t886 = true then (some true) else (some false)))) else (some false))))))))) = some true := h
 clear h
 replace H := zbs H
 obtain ⟨t859, A3, H⟩ := H
 by_cases c4 : t859 < 0
 ·rw [if_pos c4] at H
  have c4b0 : decide (t859 < 0) = true := decide_eq_true c4
  clear c4 H
  go_enter Tryz.func4, Tryz.ntmps4
  go_wp2_with (first | ((with_reducible refine gate_dst (N := 2) rfl ?_); refine box_event ?hg (N := 2) ?hd (cs := #[.slice A0_0 l0_0.length c0_0, .slice A0_1 l0_1.length c0_1]) (t := 45) ?hr ?_; (case hd => rfl); (case hg => rfl); (case hr => (go_simp; done)); intro gb858 hg w5 hbox hb; have BK858 := Am hbox; have GW858 := Am ((nge hg HB.out)); have GE858 := Am ((nge hg HB.out)); replace HB := Am (below_step HB.out hb); clear hb hbox hg; obtain ⟨hcz6_0, hcz6_1, hfz6_0, hfz6_1⟩ := cb2 BK858.out) | ((with_reducible refine gate_callee (f := 17) rfl ?_); refine goesL_ (some 11) rfl rfl Tryz.func17 (by kernel_rfl) rfl #[.agg #[.slice A0_0 l0_0.length c0_0, .slice A0_1 l0_1.length c0_1], .int .i64 1048576] rfl (by (try simp only [List.map_toArray, List.map_cons, List.map_nil]); rfl) ?_; (with_reducible refine (q16.calls k _ _ l0_0 _ _ l0_1 1048576 t859 _ ?side1 ?side2 ?side3 ?side4 A3.out).mono ?_); (case side1 => repeat (exact (Kd.C_below HR0_0.out HB.out))); (case side2 => exact HC0_0.out); (case side3 => repeat (exact (Kd.C_below HR0_1.out HB.out))); (case side4 => exact HC0_1.out); rintro e w7 ⟨rfl, hb⟩; refine ⟨_, rfl, ?_⟩; replace BK858 := Am (blk_below (g := gb858) (o := .cells #[.slice A0_0 l0_0.length c0_0, .slice A0_1 l0_1.length c0_1] 45 (0, 0)) BK858.out hb); replace HB := Am (below_step HB.out hb); (try clear hb)))
  go_ret
  exact ⟨by rfl, HB.out⟩
 ·rw [if_neg c4] at H
  have c4b0 : decide (t859 < 0) = false := decide_eq_false c4
  clear c4
  replace H := Option.bind_eq_some_iff.mp H
  obtain ⟨⟨t860, t863⟩, A80, H⟩ := H
  replace H : ((q1q.f k t860 t863 a1).bind fun bt866 => ((q1e.f k l0_0 l0_1).bind fun bt869 => ((q5.f k bt869.1 bt869.2 a1).bind fun bt876 => ((q11.f bt876.1 bt876.2 bt866.1 bt866.2).bind fun t879 => (if t879 = true then ((q1e.f k l0_0 l0_1).bind fun bt880 => ((qx.f k bt869.1 bt869.2 bt880.1 bt880.2).bind fun t886 => (if t886 = true then (some true) else (some false)))) else (some false)))))) = some true := H
  have A8 := Am A80
  clear A80
  replace H := Option.bind_eq_some_iff.mp H
  obtain ⟨⟨t866, t867⟩, A90, H⟩ := H
  replace H : ((q1e.f k l0_0 l0_1).bind fun bt869 => ((q5.f k bt869.1 bt869.2 a1).bind fun bt876 => ((q11.f bt876.1 bt876.2 t866 t867).bind fun t879 => (if t879 = true then ((q1e.f k l0_0 l0_1).bind fun bt880 => ((qx.f k bt869.1 bt869.2 bt880.1 bt880.2).bind fun t886 => (if t886 = true then (some true) else (some false)))) else (some false))))) = some true := H
  have A9 := Am A90
  clear A90
  replace H := Option.bind_eq_some_iff.mp H
  obtain ⟨⟨t869, t872⟩, A100, H⟩ := H
  replace H : ((q5.f k t869 t872 a1).bind fun bt876 => ((q11.f bt876.1 bt876.2 t866 t867).bind fun t879 => (if t879 = true then ((q1e.f k l0_0 l0_1).bind fun bt880 => ((qx.f k t869 t872 bt880.1 bt880.2).bind fun t886 => (if t886 = true then (some true) else (some false)))) else (some false)))) = some true := H
  have A10 := Am A100
  clear A100
  replace H := Option.bind_eq_some_iff.mp H
  obtain ⟨⟨t876, t877⟩, A110, H⟩ := H
  replace H : ((q11.f t876 t877 t866 t867).bind fun t879 => (if t879 = true then ((q1e.f k l0_0 l0_1).bind fun bt880 => ((qx.f k t869 t872 bt880.1 bt880.2).bind fun t886 => (if t886 = true then (some true) else (some false)))) else (some false))) = some true := H
  have A11 := Am A110
  clear A110
  replace H := zbs H
  obtain ⟨t879, A12, H⟩ := H
  by_cases c13 : t879 = true
  ·subst c13
   have H1 : ((q1e.f k l0_0 l0_1).bind fun bt880 => ((qx.f k t869 t872 bt880.1 bt880.2).bind fun t886 => (if t886 = true then (some true) else (some false)))) = some true := by rw [if_pos rfl] at H; exact H
   clear H
   have H := H1
   clear H1
   replace H := Option.bind_eq_some_iff.mp H
   obtain ⟨⟨t880, t883⟩, A140, H⟩ := H
   replace H : ((qx.f k t869 t872 t880 t883).bind fun t886 => (if t886 = true then (some true) else (some false))) = some true := H
   have A14 := Am A140
   clear A140
   replace H := zbs H
   obtain ⟨t886, A15, H⟩ := H
   by_cases c16 : t886 = true
   ·subst c16
    have H1 : (some true) = some true := rfl
    clear H
    have H := H1
    clear H1 H
    go_enter Tryz.func4, Tryz.ntmps4
    try go_wp2_with (first | ((with_reducible refine gate_dst (N := 2) rfl ?_); refine box_event ?hg (N := 2) ?hd (cs := #[.slice A0_0 l0_0.length c0_0, .slice A0_1 l0_1.length c0_1]) (t := 45) ?hr ?_; (case hd => rfl); (case hg => rfl); (case hr => (go_simp; done)); intro gb858 hg w17 hbox hb; have BK858 := Am hbox; have GW858 := Am ((nge hg HB.out)); have GE858 := Am ((nge hg HB.out)); replace HB := Am (below_step HB.out hb); clear hb hbox hg; obtain ⟨hcz18_0, hcz18_1, hfz18_0, hfz18_1⟩ := cb2 BK858.out) | ((with_reducible refine gate_callee (f := 17) rfl ?_); refine goesL_ (some 11) rfl rfl Tryz.func17 (by kernel_rfl) rfl #[.agg #[.slice A0_0 l0_0.length c0_0, .slice A0_1 l0_1.length c0_1], .int .i64 1048576] rfl (by (try simp only [List.map_toArray, List.map_cons, List.map_nil]); rfl) ?_; (with_reducible refine (q16.calls k _ _ l0_0 _ _ l0_1 1048576 t859 _ ?side1 ?side2 ?side3 ?side4 A3.out).mono ?_); (case side1 => repeat (exact (Kd.C_below HR0_0.out HB.out))); (case side2 => exact HC0_0.out); (case side3 => repeat (exact (Kd.C_below HR0_1.out HB.out))); (case side4 => exact HC0_1.out); rintro e w19 ⟨rfl, hb⟩; refine ⟨_, rfl, ?_⟩; replace BK858 := Am (blk_below (g := gb858) (o := .cells #[.slice A0_0 l0_0.length c0_0, .slice A0_1 l0_1.length c0_1] 45 (0, 0)) BK858.out hb); replace HB := Am (below_step HB.out hb); (try clear hb); obtain ⟨hcz20_0, hcz20_1, hfz20_0, hfz20_1⟩ := cb2 BK858.out) | ((with_reducible refine gate_callee (f := 19) rfl ?_); refine goesL_ (some 15) rfl rfl Tryz.func19 (by kernel_rfl) rfl #[.agg #[.slice A0_0 l0_0.length c0_0, .slice A0_1 l0_1.length c0_1]] rfl (by (try simp only [List.map_toArray, List.map_cons, List.map_nil]); rfl) ?_; (with_reducible refine (q1e.calls k _ _ l0_0 _ _ l0_1 t860 t863 _ ?side1 ?side2 ?side3 ?side4 A8.out).mono ?_); (case side1 => repeat (exact (Kd.C_below HR0_0.out HB.out))); (case side2 => exact HC0_0.out); (case side3 => repeat (exact (Kd.C_below HR0_1.out HB.out))); (case side4 => exact HC0_1.out); rintro e w21 ⟨v861, v864, rfl, ho0, ho1, hb⟩; refine ⟨_, rfl, ?_⟩; have HO862 := Am (Kd.S_lower ho0 (below_size HB.out)); have HO865 := Am (Kd.S_lower ho1 (below_size HB.out)); replace BK858 := Am (blk_below (g := gb858) (o := .cells #[.slice A0_0 l0_0.length c0_0, .slice A0_1 l0_1.length c0_1] 45 (0, 0)) BK858.out hb); replace HB := Am (below_step HB.out hb); (try clear hb); (try clear ho0); (try clear ho1); obtain ⟨Ao22, co22, eo22⟩ := Kd.S_slice HO862.out; subst eo22; obtain ⟨Ao23, co23, eo23⟩ := Kd.S_slice HO865.out; subst eo23) | ((with_reducible refine gate_callee (f := 18) rfl ?_); refine goesL_ (some 17) rfl rfl Tryz.func18 (by kernel_rfl) rfl #[.agg #[.slice Ao22 t860.length co22, .slice Ao23 t863.length co23], .int .i64 a1] rfl (by (try simp only [List.map_toArray, List.map_cons, List.map_nil]); rfl) ?_; (with_reducible refine (q1q.calls k _ _ t860 _ _ t863 a1 t866 t867 _ ?side1 ?side2 ?side3 ?side4 A9.out).mono ?_); (case side1 => repeat (exact (Kd.S_reads' HO862.out).2.2)); (case side2 => exact (Kd.S_reads' HO862.out).2.1); (case side3 => repeat (exact (Kd.S_reads' HO865.out).2.2)); (case side4 => exact (Kd.S_reads' HO865.out).2.1); rintro e w24 ⟨rfl, hb⟩; refine ⟨_, rfl, ?_⟩; replace HO862 := Am (Kd.S_below HO862.out hb); replace HO865 := Am (Kd.S_below HO865.out hb); replace BK858 := Am (blk_below (g := gb858) (o := .cells #[.slice A0_0 l0_0.length c0_0, .slice A0_1 l0_1.length c0_1] 45 (0, 0)) BK858.out hb); replace HB := Am (below_step HB.out hb); (try clear hb)) | ((with_reducible refine gate_dst (N := 6) rfl ?_); refine box_event ?hg (N := 6) ?hd (cs := #[.int .i64 0, .string (⟨#[]⟩ : ByteArray)]) (t := 48) ?hr ?_; (case hd => rfl); (case hg => rfl); (case hr => (go_simp; done)); intro gb868 hg w25 hbox hb; replace HO862 := Am (Kd.S_below HO862.out hb); replace HO865 := Am (Kd.S_below HO865.out hb); have BK868 := Am hbox; have GW868 := Am ((nge hg HB.out)); have GE868 := Am ((nge hg HB.out)); replace HB := Am (below_step HB.out hb); have NB858_868 := Am ((nlt hg (g := gb858) (o := .cells #[.slice A0_0 l0_0.length c0_0, .slice A0_1 l0_1.length c0_1] 45 (0, 0)) BK858.out)); have NB868_858 := Am ((ngt hg (g := gb858) (o := .cells #[.slice A0_0 l0_0.length c0_0, .slice A0_1 l0_1.length c0_1] 45 (0, 0)) BK858.out)); replace BK858 := Am (blk_below (g := gb858) (o := .cells #[.slice A0_0 l0_0.length c0_0, .slice A0_1 l0_1.length c0_1] 45 (0, 0)) BK858.out hb); clear hb hbox hg; have hnb26 := NB868_858.out; have hnc26 := NB858_868.out; obtain ⟨hcz27_0, hcz27_1, hfz27_0, hfz27_1⟩ := cb2 BK868.out; obtain ⟨hcz28_0, hcz28_1, hfz28_0, hfz28_1⟩ := cb2 BK858.out) | ((with_reducible refine gate_callee (f := 19) rfl ?_); refine goesL_ (some 19) rfl rfl Tryz.func19 (by kernel_rfl) rfl #[.agg #[.slice A0_0 l0_0.length c0_0, .slice A0_1 l0_1.length c0_1]] rfl (by (try simp only [List.map_toArray, List.map_cons, List.map_nil]); rfl) ?_; (with_reducible refine (q1e.calls k _ _ l0_0 _ _ l0_1 t869 t872 _ ?side1 ?side2 ?side3 ?side4 A10.out).mono ?_); (case side1 => exact Kd.C_below HR0_0.out (by repeat ((with_reducible first | exact HB.out | refine below_set ?_ GE868.out)))); (case side2 => exact HC0_0.out); (case side3 => exact Kd.C_below HR0_1.out (by repeat ((with_reducible first | exact HB.out | refine below_set ?_ GE868.out)))); (case side4 => exact HC0_1.out); rintro e w29 ⟨v870, v873, rfl, ho0, ho1, hb⟩; refine ⟨_, rfl, ?_⟩; have HO871 := Am (Kd.S_lower (Kd.S_new' ho0 (Kd.S_lt (by exact (Kd.S_mono (Kd.S_far (p := ⟨gb868, 1, none⟩) (Kd.S_far (p := ⟨gb868, 0, none⟩) (Kd.S_types HO862.out BK868.out (by decide)) (fun _ hk => hk.2) (.int .i64 t866)) (fun _ hk => hk.2) (.string t867)) (fun _ h_ => h_.1))))) (below_size (by repeat ((with_reducible first | exact HB.out | refine below_set ?_ GE868.out))))); replace HO862 := Am (Kd.S_elder' (by exact (Kd.S_mono (Kd.S_far (p := ⟨gb868, 1, none⟩) (Kd.S_far (p := ⟨gb868, 0, none⟩) (Kd.S_types HO862.out BK868.out (by decide)) (fun _ hk => hk.2) (.int .i64 t866)) (fun _ hk => hk.2) (.string t867)) (fun _ h_ => h_.1))) (Kd.S_base ho0) hb); have HO874 := Am (Kd.S_lower (Kd.S_new' ho1 (Kd.S_lt (by exact (Kd.S_mono (Kd.S_far (p := ⟨gb868, 1, none⟩) (Kd.S_far (p := ⟨gb868, 0, none⟩) (Kd.S_types HO865.out BK868.out (by decide)) (fun _ hk => hk.2) (.int .i64 t866)) (fun _ hk => hk.2) (.string t867)) (fun _ h_ => h_.1))))) (below_size (by repeat ((with_reducible first | exact HB.out | refine below_set ?_ GE868.out))))); replace HO865 := Am (Kd.S_elder' (by exact (Kd.S_mono (Kd.S_far (p := ⟨gb868, 1, none⟩) (Kd.S_far (p := ⟨gb868, 0, none⟩) (Kd.S_types HO865.out BK868.out (by decide)) (fun _ hk => hk.2) (.int .i64 t866)) (fun _ hk => hk.2) (.string t867)) (fun _ h_ => h_.1))) (Kd.S_base ho1) hb); replace BK858 := Am (blk_below (g := gb858) (o := .cells #[.slice A0_0 l0_0.length c0_0, .slice A0_1 l0_1.length c0_1] 45 (0, 0)) (by refine blk_far ?_ NB858_868.out _; refine blk_far ?_ NB858_868.out _; exact BK858.out) hb); replace BK868 := Am (blk_below (g := gb868) (o := .cells #[.int .i64 t866, .string t867] 48 (0, 0)) (by refine blk_put (cs := #[.int .i64 t866, .string (⟨#[]⟩ : ByteArray)]) ?_ 1 _ rfl; refine blk_put (cs := #[.int .i64 0, .string (⟨#[]⟩ : ByteArray)]) ?_ 0 _ rfl; exact BK868.out) hb); replace HB := Am (below_step (by repeat ((with_reducible first | exact HB.out | refine below_set ?_ GE868.out))) hb); (try clear hb); (try clear ho0); (try clear ho1)) | ((with_reducible refine gate_dst (N := 7) rfl ?_); refine box_event ?hg (N := 7) ?hd (cs := #[.slice none 0 0, .slice none 0 0]) (t := 28) ?hr ?_; (case hd => rfl); (case hg => rfl); (case hr => (go_simp; done)); intro gb875 hg w30 hbox hb; replace HO862 := Am (Kd.S_below HO862.out hb); replace HO865 := Am (Kd.S_below HO865.out hb); replace HO871 := Am (Kd.S_below HO871.out hb); replace HO874 := Am (Kd.S_below HO874.out hb); have BK875 := Am hbox; have GW875 := Am ((nge hg HB.out)); have GE875 := Am ((nge hg HB.out)); replace HB := Am (below_step HB.out hb); have NB858_875 := Am ((nlt hg (g := gb858) (o := .cells #[.slice A0_0 l0_0.length c0_0, .slice A0_1 l0_1.length c0_1] 45 (0, 0)) BK858.out)); have NB875_858 := Am ((ngt hg (g := gb858) (o := .cells #[.slice A0_0 l0_0.length c0_0, .slice A0_1 l0_1.length c0_1] 45 (0, 0)) BK858.out)); replace BK858 := Am (blk_below (g := gb858) (o := .cells #[.slice A0_0 l0_0.length c0_0, .slice A0_1 l0_1.length c0_1] 45 (0, 0)) BK858.out hb); have NB868_875 := Am ((nlt hg (g := gb868) (o := .cells #[.int .i64 t866, .string t867] 48 (0, 0)) BK868.out)); have NB875_868 := Am ((ngt hg (g := gb868) (o := .cells #[.int .i64 t866, .string t867] 48 (0, 0)) BK868.out)); replace BK868 := Am (blk_below (g := gb868) (o := .cells #[.int .i64 t866, .string t867] 48 (0, 0)) BK868.out hb); clear hb hbox hg; obtain ⟨Ao31, co31, eo31⟩ := Kd.S_slice HO871.out; subst eo31; have hnb32 := NB875_858.out; have hnc32 := NB858_875.out; have hnb33 := NB875_868.out; have hnc33 := NB868_875.out; obtain ⟨hcz34_0, hcz34_1, hfz34_0, hfz34_1⟩ := cb2 BK875.out; obtain ⟨Ao35, co35, eo35⟩ := Kd.S_slice HO874.out; subst eo35) | ((with_reducible refine gate_callee (f := 20) rfl ?_); refine goesL_ (some 22) rfl rfl Tryz.func20 (by kernel_rfl) rfl #[.agg #[.slice Ao31 t869.length co31, .slice Ao35 t872.length co35], .int .i64 a1] rfl (by (try simp only [List.map_toArray, List.map_cons, List.map_nil]); rfl) ?_; (with_reducible refine (q5.calls k _ _ t869 _ _ t872 a1 t876 t877 _ ?side1 ?side2 ?side3 ?side4 A11.out).mono ?_); (case side1 => refine (Kd.S_reads' (e := 86) (base := w.heap.size) (ok := fun k_ => (True ∧ some k_ ≠ (.slice Ao22 t860.length co22 : Value).ownBlock)) (n := t869.length) (c := co31) ?_).2.2; exact (by exact (Kd.S_mono (Kd.S_far (p := ⟨gb875, 1, none⟩) (Kd.S_far (p := ⟨gb875, 0, none⟩) (Kd.S_types HO871.out BK875.out (by decide)) (fun _ hk => hk.2) (.slice Ao31 t869.length co31)) (fun _ hk => hk.2) (.slice Ao35 t872.length co35)) (fun _ h_ => h_.1)))); (case side2 => exact (Kd.S_reads' HO871.out).2.1); (case side3 => refine (Kd.S_reads' (e := 22) (base := w.heap.size) (ok := fun k_ => (True ∧ some k_ ≠ (.slice Ao23 t863.length co23 : Value).ownBlock)) (n := t872.length) (c := co35) ?_).2.2; exact (by exact (Kd.S_mono (Kd.S_far (p := ⟨gb875, 1, none⟩) (Kd.S_far (p := ⟨gb875, 0, none⟩) (Kd.S_types HO874.out BK875.out (by decide)) (fun _ hk => hk.2) (.slice Ao31 t869.length co31)) (fun _ hk => hk.2) (.slice Ao35 t872.length co35)) (fun _ h_ => h_.1)))); (case side4 => exact (Kd.S_reads' HO874.out).2.1); rintro e w36 ⟨rfl, hb⟩; refine ⟨_, rfl, ?_⟩; replace HO862 := Am (Kd.S_below (by exact (Kd.S_mono (Kd.S_far (p := ⟨gb875, 1, none⟩) (Kd.S_far (p := ⟨gb875, 0, none⟩) (Kd.S_types HO862.out BK875.out (by decide)) (fun _ hk => hk.2) (.slice Ao31 t869.length co31)) (fun _ hk => hk.2) (.slice Ao35 t872.length co35)) (fun _ h_ => h_.1))) hb); replace HO865 := Am (Kd.S_below (by exact (Kd.S_mono (Kd.S_far (p := ⟨gb875, 1, none⟩) (Kd.S_far (p := ⟨gb875, 0, none⟩) (Kd.S_types HO865.out BK875.out (by decide)) (fun _ hk => hk.2) (.slice Ao31 t869.length co31)) (fun _ hk => hk.2) (.slice Ao35 t872.length co35)) (fun _ h_ => h_.1))) hb); replace HO871 := Am (Kd.S_below (by exact (Kd.S_mono (Kd.S_far (p := ⟨gb875, 1, none⟩) (Kd.S_far (p := ⟨gb875, 0, none⟩) (Kd.S_types HO871.out BK875.out (by decide)) (fun _ hk => hk.2) (.slice Ao31 t869.length co31)) (fun _ hk => hk.2) (.slice Ao35 t872.length co35)) (fun _ h_ => h_.1))) hb); replace HO874 := Am (Kd.S_below (by exact (Kd.S_mono (Kd.S_far (p := ⟨gb875, 1, none⟩) (Kd.S_far (p := ⟨gb875, 0, none⟩) (Kd.S_types HO874.out BK875.out (by decide)) (fun _ hk => hk.2) (.slice Ao31 t869.length co31)) (fun _ hk => hk.2) (.slice Ao35 t872.length co35)) (fun _ h_ => h_.1))) hb); replace BK858 := Am (blk_below (g := gb858) (o := .cells #[.slice A0_0 l0_0.length c0_0, .slice A0_1 l0_1.length c0_1] 45 (0, 0)) (by refine blk_far ?_ NB858_875.out _; refine blk_far ?_ NB858_875.out _; exact BK858.out) hb); replace BK868 := Am (blk_below (g := gb868) (o := .cells #[.int .i64 t866, .string t867] 48 (0, 0)) (by refine blk_far ?_ NB868_875.out _; refine blk_far ?_ NB868_875.out _; exact BK868.out) hb); replace BK875 := Am (blk_below (g := gb875) (o := .cells #[.slice Ao31 t869.length co31, .slice Ao35 t872.length co35] 28 (0, 0)) (by refine blk_put (cs := #[.slice Ao31 t869.length co31, .slice none 0 0]) ?_ 1 _ rfl; refine blk_put (cs := #[.slice none 0 0, .slice none 0 0]) ?_ 0 _ rfl; exact BK875.out) hb); replace HB := Am (below_step (by repeat ((with_reducible first | exact HB.out | refine below_set ?_ GE875.out))) hb); (try clear hb)) | ((with_reducible refine gate_dst (N := 8) rfl ?_); refine box_event ?hg (N := 8) ?hd (cs := #[.int .i64 0, .string (⟨#[]⟩ : ByteArray)]) (t := 48) ?hr ?_; (case hd => rfl); (case hg => rfl); (case hr => (go_simp; done)); intro gb878 hg w37 hbox hb; replace HO862 := Am (Kd.S_below HO862.out hb); replace HO865 := Am (Kd.S_below HO865.out hb); replace HO871 := Am (Kd.S_below HO871.out hb); replace HO874 := Am (Kd.S_below HO874.out hb); have BK878 := Am hbox; have GW878 := Am ((nge hg HB.out)); have GE878 := Am ((nge hg HB.out)); replace HB := Am (below_step HB.out hb); have NB858_878 := Am ((nlt hg (g := gb858) (o := .cells #[.slice A0_0 l0_0.length c0_0, .slice A0_1 l0_1.length c0_1] 45 (0, 0)) BK858.out)); have NB878_858 := Am ((ngt hg (g := gb858) (o := .cells #[.slice A0_0 l0_0.length c0_0, .slice A0_1 l0_1.length c0_1] 45 (0, 0)) BK858.out)); replace BK858 := Am (blk_below (g := gb858) (o := .cells #[.slice A0_0 l0_0.length c0_0, .slice A0_1 l0_1.length c0_1] 45 (0, 0)) BK858.out hb); have NB868_878 := Am ((nlt hg (g := gb868) (o := .cells #[.int .i64 t866, .string t867] 48 (0, 0)) BK868.out)); have NB878_868 := Am ((ngt hg (g := gb868) (o := .cells #[.int .i64 t866, .string t867] 48 (0, 0)) BK868.out)); replace BK868 := Am (blk_below (g := gb868) (o := .cells #[.int .i64 t866, .string t867] 48 (0, 0)) BK868.out hb); have NB875_878 := Am ((nlt hg (g := gb875) (o := .cells #[.slice Ao31 t869.length co31, .slice Ao35 t872.length co35] 28 (0, 0)) BK875.out)); have NB878_875 := Am ((ngt hg (g := gb875) (o := .cells #[.slice Ao31 t869.length co31, .slice Ao35 t872.length co35] 28 (0, 0)) BK875.out)); replace BK875 := Am (blk_below (g := gb875) (o := .cells #[.slice Ao31 t869.length co31, .slice Ao35 t872.length co35] 28 (0, 0)) BK875.out hb); clear hb hbox hg; have hnb38 := NB878_858.out; have hnc38 := NB858_878.out; have hnb39 := NB878_868.out; have hnc39 := NB868_878.out; have hnb40 := NB878_875.out; have hnc40 := NB875_878.out; obtain ⟨hcz41_0, hcz41_1, hfz41_0, hfz41_1⟩ := cb2 BK878.out; obtain ⟨hcz42_0, hcz42_1, hfz42_0, hfz42_1⟩ := cb2 BK868.out) | ((with_reducible refine gate_callee (f := 21) rfl ?_); refine goesL_ (some 25) rfl rfl Tryz.func21 (by kernel_rfl) rfl #[.agg #[.int .i64 t876, .string t877], .agg #[.int .i64 t866, .string t867]] rfl (by (try simp only [List.map_toArray, List.map_cons, List.map_nil]); rfl) ?_; (with_reducible refine (q11.calls t876 t877 t866 t867 true _ A12.out).mono ?_); rintro e w43 ⟨rfl, hb⟩; refine ⟨_, rfl, ?_⟩; replace HO862 := Am (Kd.S_below (by exact (Kd.S_mono (Kd.S_far (p := ⟨gb878, 1, none⟩) (Kd.S_far (p := ⟨gb878, 0, none⟩) (Kd.S_types HO862.out BK878.out (by decide)) (fun _ hk => hk.2) (.int .i64 t876)) (fun _ hk => hk.2) (.string t877)) (fun _ h_ => h_.1))) hb); replace HO865 := Am (Kd.S_below (by exact (Kd.S_mono (Kd.S_far (p := ⟨gb878, 1, none⟩) (Kd.S_far (p := ⟨gb878, 0, none⟩) (Kd.S_types HO865.out BK878.out (by decide)) (fun _ hk => hk.2) (.int .i64 t876)) (fun _ hk => hk.2) (.string t877)) (fun _ h_ => h_.1))) hb); replace HO871 := Am (Kd.S_below (by exact (Kd.S_mono (Kd.S_far (p := ⟨gb878, 1, none⟩) (Kd.S_far (p := ⟨gb878, 0, none⟩) (Kd.S_types HO871.out BK878.out (by decide)) (fun _ hk => hk.2) (.int .i64 t876)) (fun _ hk => hk.2) (.string t877)) (fun _ h_ => h_.1))) hb); replace HO874 := Am (Kd.S_below (by exact (Kd.S_mono (Kd.S_far (p := ⟨gb878, 1, none⟩) (Kd.S_far (p := ⟨gb878, 0, none⟩) (Kd.S_types HO874.out BK878.out (by decide)) (fun _ hk => hk.2) (.int .i64 t876)) (fun _ hk => hk.2) (.string t877)) (fun _ h_ => h_.1))) hb); replace BK858 := Am (blk_below (g := gb858) (o := .cells #[.slice A0_0 l0_0.length c0_0, .slice A0_1 l0_1.length c0_1] 45 (0, 0)) (by refine blk_far ?_ NB858_878.out _; refine blk_far ?_ NB858_878.out _; exact BK858.out) hb); replace BK868 := Am (blk_below (g := gb868) (o := .cells #[.int .i64 t866, .string t867] 48 (0, 0)) (by refine blk_far ?_ NB868_878.out _; refine blk_far ?_ NB868_878.out _; exact BK868.out) hb); replace BK875 := Am (blk_below (g := gb875) (o := .cells #[.slice Ao31 t869.length co31, .slice Ao35 t872.length co35] 28 (0, 0)) (by refine blk_far ?_ NB875_878.out _; refine blk_far ?_ NB875_878.out _; exact BK875.out) hb); replace BK878 := Am (blk_below (g := gb878) (o := .cells #[.int .i64 t876, .string t877] 48 (0, 0)) (by refine blk_put (cs := #[.int .i64 t876, .string (⟨#[]⟩ : ByteArray)]) ?_ 1 _ rfl; refine blk_put (cs := #[.int .i64 0, .string (⟨#[]⟩ : ByteArray)]) ?_ 0 _ rfl; exact BK878.out) hb); replace HB := Am (below_step (by repeat ((with_reducible first | exact HB.out | refine below_set ?_ GE878.out))) hb); (try clear hb)))
    replace HO862 := Am (Kd.S_drew HO862.out)
    replace HO865 := Am (Kd.S_drew HO865.out)
    replace HO871 := Am (Kd.S_drew HO871.out)
    replace HO874 := Am (Kd.S_drew HO874.out)
    replace BK858 := Am (blk_drew BK858.out)
    replace BK868 := Am (blk_drew BK868.out)
    replace BK875 := Am (blk_drew BK875.out)
    replace BK878 := Am (blk_drew BK878.out)
    replace HB := Am (below_drew1 HB.out)
    refine start_ (n := 5) (S := fun w' => w'.cell? ⟨gb875, 0, none⟩ = some (.slice Ao31 t869.length co31) ∧ w'.cell? ⟨gb875, 1, none⟩ = some (.slice Ao35 t872.length co35) ∧ w'.cell? ⟨gb858, 0, none⟩ = some (.slice A0_0 l0_0.length c0_0) ∧ w'.cell? ⟨gb858, 1, none⟩ = some (.slice A0_1 l0_1.length c0_1)) (ds := []) #[false, false, false, false, false] (by kernel_rfl) rfl rfl ⟨(blk_cell BK875.out 0).trans rfl, (blk_cell BK875.out 1).trans rfl, (blk_cell BK858.out 0).trans rfl, (blk_cell BK858.out 1).trans rfl⟩ (fun hHeld => ?_)
    generalize w43.drew = w44 at HO862 HO865 HO871 HO874 BK858 BK868 BK875 BK878 HB hHeld ⊢
    refine take_ (i := 0) (N := some 27) (v := ?_) (a' := ?_) #[true, false, false, false, false] rfl rfl (by kernel_rfl) (fun _ _ _ h => h) (Or.inl ⟨by rfl, ?_⟩) hHeld ?_ ?_
    rotate_left
    ·rintro w' ⟨s0, s1, s2, s3⟩
     go_simp
     with_reducible rfl
    rotate_left
    ·simp only [Act.put, List.setIfInBounds_toArray, List.set_cons_zero, List.set_cons_succ, i64_w, i32_w]
     rfl
    refine take_ (i := 1) (N := some 28) (v := ?_) (a' := ?_) #[true, true, false, false, false] rfl rfl (by kernel_rfl) (fun _ _ _ h => h) (Or.inl ⟨by rfl, ?_⟩) hHeld ?_ ?_
    rotate_left
    ·rintro w' ⟨s0, s1, s2, s3⟩
     go_simp
     with_reducible rfl
    rotate_left
    ·simp only [Act.put, List.setIfInBounds_toArray, List.set_cons_zero, List.set_cons_succ, i64_w, i32_w]
     rfl
    refine one_ (i := 2) (N := some 29) #[true, true, true, false, false] rfl rfl (by kernel_rfl) (by decide) (fun K hK => ?_)
    refine goes_ Tryz.func19 (by kernel_rfl) rfl #[.agg #[.slice A0_0 l0_0.length c0_0, .slice A0_1 l0_1.length c0_1]] (by rfl) rfl rfl (by (try simp only [List.map_toArray, List.map_cons, List.map_nil]); rfl) ?_
    with_reducible refine (q1e.calls k _ _ l0_0 _ _ l0_1 t880 t883 _ ?side1 ?side2 ?side3 ?side4 A14.out).mono ?_
    (case side1 => repeat (exact (Kd.C_below HR0_0.out HB.out)))
    (case side2 => exact HC0_0.out)
    (case side3 => repeat (exact (Kd.C_below HR0_1.out HB.out)))
    (case side4 => exact HC0_1.out)
    rintro e w45 ⟨v881, v884, rfl, ho0, ho1, hb⟩
    refine ⟨_, rfl, ?_⟩
    have HO882 := Am (Kd.S_lower (Kd.S_new' (Kd.S_new' ho0 (Kd.S_lt HO862.out)) (Kd.S_lt HO871.out)) (below_size HB.out))
    replace HO862 := Am (Kd.S_elder' HO862.out (Kd.S_base ho0) hb)
    replace HO871 := Am (Kd.S_elder' HO871.out (Kd.S_base ho0) hb)
    have HO885 := Am (Kd.S_lower (Kd.S_new' (Kd.S_new' ho1 (Kd.S_lt HO865.out)) (Kd.S_lt HO874.out)) (below_size HB.out))
    replace HO865 := Am (Kd.S_elder' HO865.out (Kd.S_base ho1) hb)
    replace HO874 := Am (Kd.S_elder' HO874.out (Kd.S_base ho1) hb)
    replace BK858 := Am (blk_below (g := gb858) (o := .cells #[.slice A0_0 l0_0.length c0_0, .slice A0_1 l0_1.length c0_1] 45 (0, 0)) BK858.out hb)
    replace BK868 := Am (blk_below (g := gb868) (o := .cells #[.int .i64 t866, .string t867] 48 (0, 0)) BK868.out hb)
    replace BK875 := Am (blk_below (g := gb875) (o := .cells #[.slice Ao31 t869.length co31, .slice Ao35 t872.length co35] 28 (0, 0)) BK875.out hb)
    replace BK878 := Am (blk_below (g := gb878) (o := .cells #[.int .i64 t876, .string t877] 48 (0, 0)) BK878.out hb)
    replace HB := Am (below_step HB.out hb)
    (try clear hb)
    (try clear ho0)
    (try clear ho1)
    obtain ⟨Ao46, co46, eo46⟩ := Kd.S_slice HO882.out
    (subst eo46)
    obtain ⟨Ao47, co47, eo47⟩ := Kd.S_slice HO885.out
    (subst eo47)
    refine hK.out _ _ ⟨(blk_cell BK875.out 0).trans rfl, (blk_cell BK875.out 1).trans rfl, (blk_cell BK858.out 0).trans rfl, (blk_cell BK858.out 1).trans rfl⟩ (fun hHeld => ?_)
    clear hK K
    refine norm_ (a' := ?_) ?_ ?_
    rotate_left
    ·show Act.put _ (some 29) _ = _
     simp only [Act.put, List.setIfInBounds_toArray, List.set_cons_zero, List.set_cons_succ, i64_w, i32_w]
     rfl
    refine one_ (i := 3) (N := some 30) #[true, true, true, true, false] rfl rfl (by kernel_rfl) (by decide) (fun K hK => ?_)
    refine goes_ Tryz.func22 (by kernel_rfl) rfl #[.agg #[.slice Ao31 t869.length co31, .slice Ao35 t872.length co35], .agg #[.slice Ao46 t880.length co46, .slice Ao47 t883.length co47]] (by rfl) rfl rfl (by (try simp only [List.map_toArray, List.map_cons, List.map_nil]); rfl) ?_
    with_reducible refine (qx.calls k _ _ t869 _ _ t872 _ _ t880 _ _ t883 true _ ?side1 ?side2 ?side3 ?side4 ?side5 ?side6 ?side7 ?side8 A15.out).mono ?_
    (case side1 => repeat (exact (Kd.S_reads' HO871.out).2.2))
    (case side2 => exact (Kd.S_reads' HO871.out).2.1)
    (case side3 => repeat (exact (Kd.S_reads' HO874.out).2.2))
    (case side4 => exact (Kd.S_reads' HO874.out).2.1)
    (case side5 => repeat (exact (Kd.S_reads' HO882.out).2.2))
    (case side6 => exact (Kd.S_reads' HO882.out).2.1)
    (case side7 => repeat (exact (Kd.S_reads' HO885.out).2.2))
    (case side8 => exact (Kd.S_reads' HO885.out).2.1)
    rintro e w48 ⟨rfl, hb⟩
    refine ⟨_, rfl, ?_⟩
    replace HO862 := Am (Kd.S_below HO862.out hb)
    replace HO865 := Am (Kd.S_below HO865.out hb)
    replace HO871 := Am (Kd.S_below HO871.out hb)
    replace HO874 := Am (Kd.S_below HO874.out hb)
    replace HO882 := Am (Kd.S_below HO882.out hb)
    replace HO885 := Am (Kd.S_below HO885.out hb)
    replace BK858 := Am (blk_below (g := gb858) (o := .cells #[.slice A0_0 l0_0.length c0_0, .slice A0_1 l0_1.length c0_1] 45 (0, 0)) BK858.out hb)
    replace BK868 := Am (blk_below (g := gb868) (o := .cells #[.int .i64 t866, .string t867] 48 (0, 0)) BK868.out hb)
    replace BK875 := Am (blk_below (g := gb875) (o := .cells #[.slice Ao31 t869.length co31, .slice Ao35 t872.length co35] 28 (0, 0)) BK875.out hb)
    replace BK878 := Am (blk_below (g := gb878) (o := .cells #[.int .i64 t876, .string t877] 48 (0, 0)) BK878.out hb)
    replace HB := Am (below_step HB.out hb)
    (try clear hb)
    refine hK.out _ _ ⟨(blk_cell BK875.out 0).trans rfl, (blk_cell BK875.out 1).trans rfl, (blk_cell BK858.out 0).trans rfl, (blk_cell BK858.out 1).trans rfl⟩ (fun hHeld => ?_)
    clear hK K
    refine norm_ (a' := ?_) ?_ ?_
    rotate_left
    ·show Act.put _ (some 30) _ = _
     simp only [Act.put, List.setIfInBounds_toArray, List.set_cons_zero, List.set_cons_succ, i64_w, i32_w]
     rfl
    refine pure_ (i := 4) (N := some 31) (v := ?_) (a' := ?_) #[true, true, true, true, true] rfl rfl (by kernel_rfl) (fun _ _ _ h => h) (Or.inl ⟨by rfl, ?_⟩) ?_ ?_
    rotate_left
    ·intro w'
     go_simp
     with_reducible rfl
    rotate_left
    ·simp only [Act.put, List.setIfInBounds_toArray, List.set_cons_zero, List.set_cons_succ, i64_w, i32_w]
     rfl
    refine done_ (by kernel_rfl) ?_
    try go_wp2
    go_ret
    exact ⟨by rfl, HB.out⟩
   ·replace c16 := Bool.eq_false_iff.mpr c16
    subst c16
    have H1 : (some false) = some true := by rw [if_neg (show ¬ (false = true) by decide)] at H; exact H
    clear H
    have H := H1
    clear H1
    exact absurd (Option.some.inj H) (by decide)
  ·replace c13 := Bool.eq_false_iff.mpr c13
   subst c13
   have H1 : (some false) = some true := by rw [if_neg (show ¬ (false = true) by decide)] at H; exact H
   clear H
   have H := H1
   clear H1
   exact absurd (Option.some.inj H) (by decide)
end Go.Proofs.YtafhjhdohclchaaGreatDoor.G
namespace Go.Proofs.YtafhjhdohclchaaGreatDoor.G
open Go.RowKit Go.Proofs.YtafhjhdohclchaaGreatDoorW.PrintWords Go.Proofs.YtafhjhdohclchaaGreatDoorW.PrintLast Go.Proofs.YtafhjhdohclchaaGreatDoorW.PrintMore
attribute [local go_sem] min2_int min_two
theorem pathOf_pure (ins : List S159) (data : List (List Int)) (a : Int) (hb : BigF ins data) : ∃ k, qs.f k ins data a = some true := by
  obtain ⟨t, ht, hL⟩ := szFs_ev ins data hb 1048576 (by omega) (by omega)
  refine Ev.rounds (r := true) ?_
  unfold qs.f
  rcases hL with rfl | ⟨ht0, _, hz⟩
  · exact Ev.bind ht (Ev.ip (by omega) (Ev.now _))
  · have hF := toFs_ev ins data hz
    obtain ⟨r, ra, rb⟩ := pathOf_both (ins := ins.map cI) (data := data) (fun x hx => by obtain ⟨y, hy, rfl⟩ := List.mem_map.1 hx; exact hz.io y hy) a
    exact Ev.bind ht (Ev.im (by omega) (Ev.bind hF (Ev.bind rb (Ev.bind hF (Ev.bind ra (Ev.bind (Ev.val fun _ => eqTextResult_self r) (Ev.ip rfl (Ev.bind hF (Ev.bind (eqFs_c ins data hz) (Ev.ip rfl (Ev.now _)))))))))))
end Go.Proofs.YtafhjhdohclchaaGreatDoor.G
namespace Go.Proofs.YtafhjhdohclchaaGreatDoor.G
open Go.RowKit Go.Proofs.YtafhjhdohclchaaGreatDoorW.PrintWords Go.Proofs.YtafhjhdohclchaaGreatDoorW.PrintLast Go.Proofs.YtafhjhdohclchaaGreatDoorW.PrintMore
attribute [local go_sem] min2_int min_two
/-- Whatever reads as a value of type T is some a of the kind d, of which ok holds. -/
def Br (P : Program) {α : Type} (T : TypeId) (d : Kd α) (ok : α → Prop) : Prop :=
  ∀ (H : Type) (enc : TypeId × Value → H) (W : World) (fuel : Nat) (cs : List Value) (x : DataW H × List MemPlace), DataW.trod enc P W 0 (fun _ => true) true fuel T cs = some x → ∃ a : α, d.K W a cs ∧ ok a
section
variable {P : Program} {T e : TypeId}
theorem Br.int {k : IntKind} (ht : P.underlying T = some (.int k)) : Br P T (Kd.int k) (fun n => (Lit.int k n).wf = true) := by
  intro H enc W fuel cs x h
  obtain ⟨n, rfl, _, hw⟩ := DataW.trod_int ht h
  exact ⟨n, rfl, hw⟩
theorem Br.str (ht : P.underlying T = some .string) : Br P T Kd.string (fun s => s.size ≤ 9223372036854775807) := by
  intro H enc W fuel cs x h
  obtain ⟨s, rfl, _, hs⟩ := DataW.trod_string ht h
  exact ⟨s, rfl, hs⟩
theorem Br.slice {α : Type} [Inhabited α] {d : Kd α} {ok : α → Prop} (h : Br P e d ok) (ht : P.underlying T = some (.slice e)) (hc : P.cellsOf e = d.sz) : Br P T (Kd.slice e d) (fun l => l.length ≤ 9223372036854775807 ∧ ∀ x ∈ l, ok x) := by
  intro H enc W fuel cs x hx
  rcases Go.Deep.open_slice ht hx with ⟨rfl, _⟩ | ⟨a, len, cap, m, n, D, Pl, rfl, _, hl, hcap, hm, _, hel⟩
  · exact ⟨[], ⟨none, 0, rfl, Nat.le_refl _, Kd.C_nil d W⟩, by simp, fun x hx => by cases hx⟩
  · have hm' : m = cap := by simpa using hm
    subst hm'
    have hch : ∀ i, i < m → ∃ y : α, ∃ c : List Value, W.cells? 0 (a.add (i * P.cellsOf e)) (P.cellsOf e) = some c ∧ d.K W y c ∧ ok y := by
      intro i hi
      obtain ⟨c, h1, h2⟩ := hel i hi
      obtain ⟨y, h3, h4⟩ := h H enc W n c _ h2
      exact ⟨y, c, h1, h3, h4⟩
    obtain ⟨f, hf⟩ := Go.Deep.choose_lt hch
    have hlen : ((List.range len).map f).length = len := by simp
    refine ⟨(List.range len).map f, ⟨some a, m, by rw [hlen], by rw [hlen]; exact hl, ?_⟩, ?_, ?_⟩
    · refine ⟨rfl, ?_, fun _ => ⟨a, rfl, fun j p hj => ?_⟩⟩
      · rw [hlen]; exact Nat.le_trans hl hcap
      · obtain ⟨hjl, hj⟩ := List.getElem?_eq_some_iff.1 hj
        rw [hlen] at hjl
        have hp : f j = p := by simpa using hj
        subst hp
        obtain ⟨c, h1, h2, _⟩ := hf j (by omega)
        obtain ⟨_, hcl, hcell⟩ := World.cells?_some h1
        refine ⟨c, by rw [hcl, hc], h2, fun i u hi => ?_⟩
        have hil := (List.getElem?_eq_some_iff.1 hi).1
        have h3 := hcell i (by omega)
        rw [hc] at h3
        rw [← hi, ← h3, Go.Deep.add_add]
    · rw [hlen]; exact Nat.le_trans hl hcap
    · intro y hy
      obtain ⟨i, hi, rfl⟩ := List.mem_map.1 hy
      obtain ⟨c, _, _, h4⟩ := hf i (by have := List.mem_range.1 hi; omega)
      exact h4
theorem Br.iso {α β : Type} {d : Kd α} {ok : α → Prop} {f : β → α} (h : Br P T d ok) (g : α → β) (hg : ∀ a, f (g a) = a) : Br P T (Kd.iso d f) (fun b => ok (f b)) := by
  intro H enc W fuel cs x hx
  obtain ⟨a, hk, ho⟩ := h H enc W fuel cs x hx
  exact ⟨g a, by show d.K W (f (g a)) cs; rw [hg]; exact hk, by show ok (f (g a)); rw [hg]; exact ho⟩
theorem Br.two {α0 α1 : Type} {d0 : Kd α0} {d1 : Kd α1} {ok0 : α0 → Prop} {ok1 : α1 → Prop} {f0 f1 : Field} (ht : P.underlying T = some (.struct #[f0, f1])) (hc : P.cellsOf T = d0.sz + d1.sz)
    (h0 : Br P f0.type d0 ok0) (o0 : f0.offset = 0) (c0 : P.cellsOf f0.type = d0.sz) (h1 : Br P f1.type d1 ok1) (o1 : f1.offset = d0.sz) (c1 : P.cellsOf f1.type = d1.sz) : Br P T (Kd.pair d0 d1) (fun x => ok0 x.1 ∧ ok1 x.2) := by
  intro H enc W fuel cs x hx
  obtain ⟨xs, n, _, _, hl, hxl, hf⟩ := DataW.trod_struct ht hx
  have g0 := hf 0 f0 rfl
  have g1 := hf 1 f1 rfl
  have hxl' : xs.length = 2 := hxl
  rw [List.getElem?_eq_getElem (by omega)] at g0 g1
  obtain ⟨y0, k0, p0⟩ := h0 H enc W n _ _ g0
  obtain ⟨y1, k1, p1⟩ := h1 H enc W n _ _ g1
  rw [o0, c0] at k0
  rw [o1, c1] at k1
  refine ⟨(y0, y1), ⟨_, _, ?_, k0, k1⟩, p0, p1⟩
  rw [List.drop_zero, List.take_of_length_le (l := cs.drop d0.sz) (by rw [List.length_drop]; omega), List.take_append_drop]
theorem Br.five {α0 α1 α2 α3 α4 : Type} {d0 : Kd α0} {d1 : Kd α1} {d2 : Kd α2} {d3 : Kd α3} {d4 : Kd α4} {ok0 : α0 → Prop} {ok1 : α1 → Prop} {ok2 : α2 → Prop} {ok3 : α3 → Prop} {ok4 : α4 → Prop} {f0 f1 f2 f3 f4 : Field} (ht : P.underlying T = some (.struct #[f0, f1, f2, f3, f4])) (hc : P.cellsOf T = d0.sz + (d1.sz + (d2.sz + (d3.sz + d4.sz))))
    (h0 : Br P f0.type d0 ok0) (o0 : f0.offset = 0) (c0 : P.cellsOf f0.type = d0.sz) (h1 : Br P f1.type d1 ok1) (o1 : f1.offset = d0.sz) (c1 : P.cellsOf f1.type = d1.sz) (h2 : Br P f2.type d2 ok2) (o2 : f2.offset = d0.sz + d1.sz) (c2 : P.cellsOf f2.type = d2.sz)
    (h3 : Br P f3.type d3 ok3) (o3 : f3.offset = d0.sz + d1.sz + d2.sz) (c3 : P.cellsOf f3.type = d3.sz) (h4 : Br P f4.type d4 ok4) (o4 : f4.offset = d0.sz + d1.sz + d2.sz + d3.sz) (c4 : P.cellsOf f4.type = d4.sz) :
    Br P T (Kd.pair d0 (Kd.pair d1 (Kd.pair d2 (Kd.pair d3 d4)))) (fun x => ok0 x.1 ∧ ok1 x.2.1 ∧ ok2 x.2.2.1 ∧ ok3 x.2.2.2.1 ∧ ok4 x.2.2.2.2) := by
  intro H enc W fuel cs x hx
  obtain ⟨xs, n, _, _, hl, hxl, hf⟩ := DataW.trod_struct ht hx
  have g0 := hf 0 f0 rfl
  have g1 := hf 1 f1 rfl
  have g2 := hf 2 f2 rfl
  have g3 := hf 3 f3 rfl
  have g4 := hf 4 f4 rfl
  have hxl' : xs.length = 5 := hxl
  rw [List.getElem?_eq_getElem (by omega)] at g0 g1 g2 g3 g4
  obtain ⟨y0, k0, p0⟩ := h0 H enc W n _ _ g0
  obtain ⟨y1, k1, p1⟩ := h1 H enc W n _ _ g1
  obtain ⟨y2, k2, p2⟩ := h2 H enc W n _ _ g2
  obtain ⟨y3, k3, p3⟩ := h3 H enc W n _ _ g3
  obtain ⟨y4, k4, p4⟩ := h4 H enc W n _ _ g4
  rw [o0, c0] at k0
  rw [o1, c1] at k1
  rw [o2, c2] at k2
  rw [o3, c3] at k3
  rw [o4, c4] at k4
  refine ⟨(y0, y1, y2, y3, y4), ⟨_, _, ?_, k0, ⟨_, _, rfl, k1, ⟨_, _, rfl, k2, ⟨_, _, rfl, k3, k4⟩⟩⟩⟩, p0, p1, p2, p3, p4⟩
  rw [List.drop_zero, List.take_of_length_le (l := cs.drop (d0.sz + d1.sz + d2.sz + d3.sz)) (by rw [List.length_drop]; omega)]
  rw [show cs.drop (d0.sz + d1.sz + d2.sz + d3.sz) = (((cs.drop d0.sz).drop d1.sz).drop d2.sz).drop d3.sz by simp only [List.drop_drop], show cs.drop (d0.sz + d1.sz + d2.sz) = ((cs.drop d0.sz).drop d1.sz).drop d2.sz by simp only [List.drop_drop], show cs.drop (d0.sz + d1.sz) = (cs.drop d0.sz).drop d1.sz by simp only [List.drop_drop]]
  simp only [List.take_append_drop]
end
theorem Br.mono {P : Program} {α : Type} {T : TypeId} {d : Kd α} {ok ok' : α → Prop} (h : Br P T d ok) (hm : ∀ a, ok a → ok' a) : Br P T d ok' := fun H enc W fuel cs x hx => by
  obtain ⟨a, h1, h2⟩ := h H enc W fuel cs x hx
  exact ⟨a, h1, hm a h2⟩
/-- one cell that holds a slice -/
theorem Br.one {P : Program} {α : Type} {e T : TypeId} {d : Kd α} {ok : List α → Prop} (h : Br P T (Kd.slice e d) ok) {H : Type} {enc : TypeId × Value → H} {W : World} {fuel : Nat} {v : Value} {x : DataW H × List MemPlace} (hx : DataW.trod enc P W 0 (fun _ => true) true fuel T [v] = some x) :
    ∃ (l : List α) (A : Option Addr) (c : Nat), v = .slice A l.length c ∧ l.length ≤ c ∧ d.C W A l.length l ∧ ok l := by
  obtain ⟨l, ⟨A, c, hv, hl, hc⟩, ho⟩ := h H enc W fuel [v] x hx
  injection hv with hv
  exact ⟨l, A, c, hv, hl, hc, ho⟩
end Go.Proofs.YtafhjhdohclchaaGreatDoor.G
namespace Go.Proofs.YtafhjhdohclchaaGreatDoor.G
open Go.RowKit Go.Proofs.YtafhjhdohclchaaGreatDoorW.PrintWords Go.Proofs.YtafhjhdohclchaaGreatDoorW.PrintLast Go.Proofs.YtafhjhdohclchaaGreatDoorW.PrintMore
attribute [local go_sem] min2_int min_two
instance : Inhabited S267 := ⟨z267⟩
instance : Inhabited S159 := ⟨z159⟩
theorem brEntry : Br Tryz.prog 267 k267 (fun e => Big e.f0.size) :=
  (Br.iso (Br.two Tryz.underlying267 (by kernel_rfl) (Br.str Tryz.underlying9) rfl (by kernel_rfl) (Br.int Tryz.underlying2) rfl (by kernel_rfl)) (fun p => ⟨p.1, p.2⟩) (fun _ => rfl)).mono (fun _ h => h.1)
theorem brInode : Br Tryz.prog 159 k159 BigI :=
  (Br.iso (Br.five Tryz.underlying159 (by kernel_rfl) (Br.int Tryz.underlying2) rfl (by kernel_rfl) (Br.int Tryz.underlying2) rfl (by kernel_rfl) (Br.int Tryz.underlying2) rfl (by kernel_rfl)
    (Br.slice (Br.int Tryz.underlying2) Tryz.underlying38 (by kernel_rfl)) rfl (by kernel_rfl) (Br.slice brEntry Tryz.underlying157 (by kernel_rfl)) rfl (by kernel_rfl)) (fun p => ⟨p.1, p.2.1, p.2.2.1, p.2.2.2.1, p.2.2.2.2⟩) (fun _ => rfl)).mono
    (fun _ h => ⟨h.2.2.2.1.1, h.2.2.2.2.1, h.2.2.2.2.2⟩)
theorem brInodes : Br Tryz.prog 43 (Kd.slice 159 k159) (fun l => Big l.length ∧ ∀ x ∈ l, BigI x) := Br.slice brInode Tryz.underlying43 (by kernel_rfl)
theorem brData : Br Tryz.prog 26 (Kd.slice 22 (Kd.slice 5 (Kd.int .u8))) (fun l => Big l.length ∧ ∀ x ∈ l, Big x.length) :=
  (Br.slice (Br.slice (Br.int Tryz.underlying5) Tryz.underlying22 (by kernel_rfl)) Tryz.underlying26 (by kernel_rfl)).mono (fun _ h => ⟨h.1, fun x hx => (h.2 x hx).1⟩)
end Go.Proofs.YtafhjhdohclchaaGreatDoor.G
