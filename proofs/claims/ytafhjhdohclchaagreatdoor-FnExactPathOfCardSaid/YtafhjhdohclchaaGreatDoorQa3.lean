/- Contracts of functions, words and pure lemmas that a statement reaches (part 3); conditions: each theorem's own hypotheses. -/
import Derived.Sort.OwnSortedInts
import Derived.Lib.SortBridge
import Derived.Lib.SliceRun
import Derived.Test.YtafhjhdohclchaaGreatDoorQa2
set_option linter.unusedVariables false
set_option linter.unusedSimpArgs false
namespace Go.Proofs.YtafhjhdohclchaaGreatDoor.G
open Go.RowKit Go.Proofs.YtafhjhdohclchaaGreatDoorW.PrintWords Go.Proofs.YtafhjhdohclchaaGreatDoorW.PrintLast Go.Proofs.YtafhjhdohclchaaGreatDoorW.PrintMore
attribute [local go_sem] min2_int min_two
attribute [local go_sem high] str_leq
attribute [local go_sem] binOp_string_geq
mutual
def qj.l0 : Nat → List (S86) → List Bool → List Int → Option (List Int)
 | 0, _, _, _ => none
 | k + 1, x0, x5, x6 => if (x6.length : Int) > 0 then (if 0 ≤ (wrap64 ((x6.length : Int) - 1)) then (if (wrap64 ((x6.length : Int) - 1)) < (x6.length : Int) then (if (wrap64 ((x6.length : Int) - 1)) ≤ (x6.length : Int) then ((some (x6.take ((wrap64 ((x6.length : Int) - 1)) : Int).toNat : List Int)).bind fun y302 => (if 0 ≤ (rd x6 (wrap64 ((x6.length : Int) - 1))) then (if (rd x6 (wrap64 ((x6.length : Int) - 1))) < (x5.length : Int) then (if rdOf false x5 (rd x6 (wrap64 ((x6.length : Int) - 1))) = true then (qj.l0 k x0 x5 y302) else (if (rd x6 (wrap64 ((x6.length : Int) - 1))) < (x0.length : Int) then (qj.l1 k x0 (x5.set ((rd x6 (wrap64 ((x6.length : Int) - 1))) : Int).toNat true) y302 ((rd_T86 x0 (rd x6 (wrap64 ((x6.length : Int) - 1)))).f4) (((rd_T86 x0 (rd x6 (wrap64 ((x6.length : Int) - 1)))).f4).length : Int) 0) else (none))) else (none)) else (none))) else (none)) else (none)) else (none)) else (qj.l2 k ([] : List Int) x5 (x5.length : Int) 0)
def qj.l1 : Nat → List (S86) → List Bool → List Int → List (S143) → Int → Int → Option (List Int)
 | 0, _, _, _, _, _, _ => none
 | k + 1, x0, x5, x6, x43, x44, x45 => if x45 < x44 then (if 0 ≤ x45 then (if x45 < (x43.length : Int) then (if x6.length < 17592186044416 then (qj.l1 k x0 x5 (x6 ++ [(rd_T143 x43 x45).f1]) x43 x44 (wrap64 (x45 + 1))) else (none)) else (none)) else (none)) else (qj.l0 k x0 x5 x6)
def qj.l2 : Nat → List Int → List Bool → Int → Int → Option (List Int)
 | 0, _, _, _, _ => none
 | k + 1, x10, x55, x56, x57 => if x57 < x56 then (if 0 ≤ x57 then (if x57 < (x55.length : Int) then (if rdOf false x55 x57 = true then (if x10.length < 17592186044416 then (qj.l2 k (x10 ++ [x57]) x55 x56 (wrap64 (x57 + 1))) else (none)) else (qj.l2 k x10 x55 x56 (wrap64 (x57 + 1)))) else (none)) else (none)) else (some x10)
end
def qj.f (k : Nat) (l0 : List (S86)) (a1 : Int) : Option (List Int) := if 0 ≤ (l0.length : Int) then (if ((l0.length : Int) : Int).toNat ≤ 281474976710656 then (qj.l0 k l0 (List.replicate ((l0.length : Int) : Int).toNat false) (([a1] : List Int))) else (none)) else (none)
theorem qj.mono_l : ∀ k, (∀ y0 y1 y2, LeO (qj.l0 k y0 y1 y2) (qj.l0 (k + 1) y0 y1 y2)) ∧ (∀ y0 y1 y2 y3 y4 y5, LeO (qj.l1 k y0 y1 y2 y3 y4 y5) (qj.l1 (k + 1) y0 y1 y2 y3 y4 y5)) ∧ (∀ y0 y1 y2 y3, LeO (qj.l2 k y0 y1 y2 y3) (qj.l2 (k + 1) y0 y1 y2 y3))
 | 0 => ⟨fun _ _ _ r h => by simp [qj.l0] at h, fun _ _ _ _ _ _ r h => by simp [qj.l1] at h, fun _ _ _ _ r h => by simp [qj.l2] at h⟩
 | k + 1 => by
  obtain ⟨ih0, ih1, ih2⟩ := qj.mono_l k
  refine ⟨?_, ?_, ?_⟩
  ·intro y0 y1 y2
   unfold qj.l0
   repeat' first | (with_reducible exact ih0 _ _ _) | (with_reducible exact ih1 _ _ _ _ _ _) | (with_reducible exact ih2 _ _ _ _) | (with_reducible exact LeO.refl _) | (with_reducible refine LeO.ite ?_ ?_) | (with_reducible refine LeO.bind ?_ (fun _ => ?_))
  ·intro y0 y1 y2 y3 y4 y5
   unfold qj.l1
   repeat' first | (with_reducible exact ih0 _ _ _) | (with_reducible exact ih1 _ _ _ _ _ _) | (with_reducible exact LeO.refl _) | (with_reducible refine LeO.ite ?_ ?_)
  ·intro y0 y1 y2 y3
   unfold qj.l2
   repeat' first | (with_reducible exact ih2 _ _ _ _) | (with_reducible exact LeO.refl _) | (with_reducible refine LeO.ite ?_ ?_)
theorem qj.mono : ∀ a0 a1 k, LeO (qj.f k a0 a1) (qj.f (k + 1) a0 a1) := by
 intro a0 a1 k
 obtain ⟨ih0, ih1, ih2⟩ := qj.mono_l k
 unfold qj.f
 repeat' first | (with_reducible exact ih0 _ _ _) | (with_reducible exact LeO.refl _) | (with_reducible refine LeO.ite ?_ ?_)
set_option maxHeartbeats 8000000 in
set_option maxRecDepth 100000 in
theorem qj.calls (k : Nat) (A0 : Option Addr) (c0 : Nat) (l0 : List (S86)) (a1 : Int) (r : List Int) (w : World) (hr0 : Kd.C k86 w A0 l0.length l0) (hc0 : l0.length ≤ c0) (h : qj.f k l0 a1 = some r) :
  Calls Tryz.prog 175 #[.slice A0 l0.length c0, .int .i64 a1] w fun e w' => ∃ v0_ : Value, e = .returned (v0_) ∧ Kd.R (Kd.int .i64) 2 w' w.heap.size (fun _ => True) v0_ r ∧ Below w.heap.size w w' := by
 have hu143 := Tryz.underlying143
 have HR0 := Am hr0
 have HC0 := Am hc0
 clear hr0 hc0
 have HB := Am (Below.refl w.heap.size w)
 have H : (if 0 ≤ (l0.length : Int) then (if ((l0.length : Int) : Int).toNat ≤ 281474976710656 then (qj.l0 k l0 (List.replicate ((l0.length : Int) : Int).toNat false) (([a1] : List Int))) else (none)) else (none)) = some r := h
 clear h
 replace H := ino H
 obtain ⟨c3, H⟩ := H
 have c3b0 := eq_true c3
 have c3b1 : decide (0 ≤ (l0.length : Int)) = true := decide_eq_true c3
 clear c3
 replace H := ino H
 obtain ⟨c4, H⟩ := H
 have c4b0 := eq_true c4
 have c4b1 : decide (((l0.length : Int) : Int).toNat ≤ 281474976710656) = true := decide_eq_true c4
 clear c4
 obtain ⟨y295, hy295⟩ : ∃ y_ : List Bool, y_ = (List.replicate ((l0.length : Int) : Int).toNat false) := ⟨_, rfl⟩
 replace H : (qj.l0 k l0 y295 (([a1] : List Int))) = some r := by (rw [hy295]; with_reducible exact H)
 have Ny295 := Am hy295
 clear hy295
 obtain ⟨y298, hy298⟩ : ∃ y_ : List Int, y_ = (([a1] : List Int)) := ⟨_, rfl⟩
 replace H : (qj.l0 k l0 y295 y298) = some r := by (rw [hy298]; with_reducible exact H)
 have Ny298 := Am hy298
 clear hy298
 have H' := Am H
 clear H
 go_enter Tryz.func175, Tryz.ntmps175
 go_wp2_with (first | ((with_reducible refine gate_dst (N := 15) rfl ?_); refine Kd.R_make Kd.bool _ 4 rfl (N := 15) rfl 252 _ _ rfl (l0.length : Int) rfl rfl Tryz.underlying252 (.bool false) 1 info4 rfl (by decide) (by omega) false (ok := fun _ => True) (okp := fun _ => True) rfl (fun _ hk => hk) trivial (od (by assumption)) (Nat.le_trans (Nat.mul_le_mul_right _ (od (by assumption) : (l0.length : Int).toNat ≤ 281474976710656)) (by omega)) (Below.refl _ _) (Nat.le_refl _) ?_; intro v296 w5 ho6 hb hg_ hnew_; clear hg_ hnew_; (rw [← Ny295.out] at ho6); have HO297 := Am (Kd.R_lower ho6 (below_size HB.out)); replace HB := Am (below_step HB.out hb); clear hb ho6) | ((with_reducible refine gate_dst (N := 17) rfl ?_); refine Kd.R_lit (Kd.int .i64) _ 2 ?hg (N := 17) ?hd (xs := ([a1] : List Int)) (inner := [.int .i64 a1]) (ok := fun _ => True) (okp := fun _ => True) ?hr ?hp (fun _ hk => hk) trivial (Below.refl _ _) (Nat.le_refl _) (by simp) ?_; (case hd => rfl); (case hg => rfl); (case hr => (go_simp; done)); (case hp => exact (Reps.one (show Kd.M (Kd.int .i64) _ _ _ a1 [.int .i64 a1] from rfl) (Reps.none _ _))); intro v299 w7 ho8 hb hg_ hnew_; clear hg_ hnew_; (rw [← Ny298.out] at ho8); replace HO297 := Am (Kd.R_below HO297.out hb); have HO300 := Am (Kd.R_lower ho8 (below_size HB.out)); replace HB := Am (below_step HB.out hb); clear hb ho8))
 go_loopg [6] k (fun kq v6 w' => ∃ (x5_1 : List Bool) (x6_1 : List Int), Aside0 (qj.l0 kq l0 x5_1 x6_1 = some r) ∧ Aside0 (kq ≤ k) ∧ Aside0 (Kd.R Kd.bool 4 w' w.heap.size (fun _ => True) v296 x5_1) ∧ Aside0 (Kd.R (Kd.int .i64) 2 w' w.heap.size (fun _ => True) v6 x6_1) ∧ Aside0 (Below w.heap.size w w'))
 case atStart => exact ⟨(y295), (y298), H', ⟨Nat.le_refl _⟩, ⟨by exact HO297.out⟩, ⟨by exact HO300.out⟩, ⟨HB.out⟩⟩
 case round =>
  clear H'
  try clear c3b0
  try clear c3b1
  try clear c4b0
  try clear c4b1
  obtain ⟨x5_1, x6_1, HA, HK1, HO_5, HO_6, HB⟩ := hrel
  cases gk with
  | zero => exact absurd HA.out (by simp [qj.l0])
  | succ k1 =>
   have H := HA.out
   clear HA
   simp only [qj.l0] at H
   by_cases c9 : (x6_1.length : Int) > 0
   ·rw [if_pos c9] at H
    have c9b0 : decide (0 < (x6_1.length : Int)) = true := decide_eq_true c9
    have c9b1 : decide (0 < x6_1.length) = true := decide_eq_true (by omega)
    clear c9
    obtain ⟨ji10, hji10⟩ : ∃ j_ : Int, (wrap64 ((x6_1.length : Int) - 1)) = j_ := ⟨_, rfl⟩
    replace H : (if 0 ≤ (ji10) then (if (ji10) < (x6_1.length : Int) then (if (ji10) ≤ (x6_1.length : Int) then ((some (x6_1.take ((ji10) : Int).toNat : List Int)).bind fun y302 => (if 0 ≤ (rd x6_1 (ji10)) then (if (rd x6_1 (ji10)) < (x5_1.length : Int) then (if rdOf false x5_1 (rd x6_1 (ji10)) = true then (qj.l0 k1 l0 x5_1 y302) else (if (rd x6_1 (ji10)) < (l0.length : Int) then (qj.l1 k1 l0 (x5_1.set ((rd x6_1 (ji10)) : Int).toNat true) y302 ((rd_T86 l0 (rd x6_1 (ji10))).f4) (((rd_T86 l0 (rd x6_1 (ji10))).f4).length : Int) 0) else (none))) else (none)) else (none))) else (none)) else (none)) else (none)) = some r := by (rw [hji10] at H; exact H)
    have hji10w : (IntKind.i64.wrap ((x6_1.length : Int) - 1)) = ji10 := (i64_w _).trans hji10
    replace H := ino H
    obtain ⟨c11, H⟩ := H
    have c11b0 : decide (0 ≤ (ji10)) = true := decide_eq_true c11
    clear c11
    replace H := ino H
    obtain ⟨c12, H⟩ := H
    have c12b0 : decide ((ji10) < (x6_1.length : Int)) = true := decide_eq_true c12
    clear c12
    replace H := ino H
    obtain ⟨c13, H⟩ := H
    have c13b0 := eq_true c13
    have c13b1 : decide ((ji10) ≤ (x6_1.length : Int)) = true := decide_eq_true c13
    clear c13
    obtain ⟨y302, hy302⟩ : ∃ y_ : List Int, y_ = (x6_1.take ((ji10) : Int).toNat) := ⟨_, rfl⟩
    replace H : (if 0 ≤ (rd x6_1 (ji10)) then (if (rd x6_1 (ji10)) < (x5_1.length : Int) then (if rdOf false x5_1 (rd x6_1 (ji10)) = true then (qj.l0 k1 l0 x5_1 y302) else (if (rd x6_1 (ji10)) < (l0.length : Int) then (qj.l1 k1 l0 (x5_1.set ((rd x6_1 (ji10)) : Int).toNat true) y302 ((rd_T86 l0 (rd x6_1 (ji10))).f4) (((rd_T86 l0 (rd x6_1 (ji10))).f4).length : Int) 0) else (none))) else (none)) else (none)) = some r := by (have H2_ := (Option.bind_some _ _).symm.trans H; rw [hy302]; with_reducible exact H2_)
    have Ny302 := Am hy302
    clear hy302
    replace H := ino H
    obtain ⟨c14, H⟩ := H
    have c14b0 : decide (0 ≤ (rd x6_1 (ji10))) = true := decide_eq_true c14
    clear c14
    replace H := ino H
    obtain ⟨c15, H⟩ := H
    have c15b0 : decide ((rd x6_1 (ji10)) < (x5_1.length : Int)) = true := decide_eq_true c15
    clear c15
    obtain ⟨bq16, hbq16⟩ : ∃ b_ : Bool, b_ = (rdOf false x5_1 (rd x6_1 (ji10))) := ⟨_, rfl⟩
    replace H : (if bq16 = true then (qj.l0 k1 l0 x5_1 y302) else (if (rd x6_1 (ji10)) < (l0.length : Int) then (qj.l1 k1 l0 (x5_1.set ((rd x6_1 (ji10)) : Int).toNat true) y302 ((rd_T86 l0 (rd x6_1 (ji10))).f4) (((rd_T86 l0 (rd x6_1 (ji10))).f4).length : Int) 0) else (none))) = some r := by rw [← hbq16] at H; exact H
    have Nbq16 := Am hbq16
    clear hbq16
    by_cases c17 : bq16 = true
    ·subst c17
     have H1 : (qj.l0 k1 l0 x5_1 y302) = some r := by rw [if_pos rfl] at H; exact H
     clear H
     have H := H1
     clear H1
     have H' := Am H
     clear H
     obtain ⟨Ao18, co18, eo18⟩ := Kd.R_slice HO_6.out
     subst eo18
     have p301 : 0 ≤ ((ji10) : Int) := od (by assumption)
     have q301 : (ji10) < (x6_1.length : Int) := od (by assumption)
     obtain ⟨ad301, e301, hx301_0⟩ := Kd.at_int (Kd.R_reads' HO_6.out).2.2 (ji10) p301 q301
     cases e301
     replace p301 := eq_true p301
     replace q301 := eq_true q301
     have q19 : ((ji10) : Int) ≤ ((x6_1.length : Int) : Int) := od (by assumption)
     obtain ⟨i019, hi019, _, hsz19, _⟩ := info_parts info2
     have hcut19 := cut_to (P := Tryz.prog) 38 2 .i64 Tryz.underlying38 hi019 (some ad301) x6_1.length co18 (ji10) (od (by assumption)) q19 (Kd.R_reads' HO_6.out).2.1
     have hr19 := Kd.R_take (m := ((ji10) : Int).toNat) HO_6.out (by omega)
     have hy19 : y302.length = ((ji10) : Int).toNat := (by rw [Ny302.out, List.length_take]; omega)
     rw [← Ny302.out] at hr19
     rw [← hy19] at hr19 hcut19
     clear hy19 hi019 hsz19 HO_6
     have HO304 := Am hr19
     clear hr19
     replace q19 := eq_true q19
     obtain ⟨Ao20, co20, eo20⟩ := Kd.R_slice HO_5.out
     subst eo20
     have p305 : 0 ≤ ((rd x6_1 (ji10)) : Int) := od (by assumption)
     have q305 : (rd x6_1 (ji10)) < (x5_1.length : Int) := od (by assumption)
     obtain ⟨ad305, e305, hx305_0⟩ := Kd.at_bool (Kd.R_reads' HO_5.out).2.2 (rd x6_1 (ji10)) p305 q305
     (try rw [← Nbq16.out] at hx305_0)
     cases e305
     replace p305 := eq_true p305
     replace q305 := eq_true q305
     go_wp2
     go_roundg k1
     case measure => have := HK1.out; omega
     case rel => exact ⟨(x5_1), (y302), H', ⟨by have := HK1.out; omega⟩, ⟨by exact HO_5.out⟩, ⟨by exact HO304.out⟩, ⟨HB.out⟩⟩
    ·replace c17 := Bool.eq_false_iff.mpr c17
     subst c17
     have H1 : (if (rd x6_1 (ji10)) < (l0.length : Int) then (qj.l1 k1 l0 (x5_1.set ((rd x6_1 (ji10)) : Int).toNat true) y302 ((rd_T86 l0 (rd x6_1 (ji10))).f4) (((rd_T86 l0 (rd x6_1 (ji10))).f4).length : Int) 0) else (none)) = some r := by rw [if_neg (show ¬ (false = true) by decide)] at H; exact H
     clear H
     have H := H1
     clear H1
     obtain ⟨y306, hy306⟩ : ∃ y_ : List Bool, y_ = (x5_1.set ((rd x6_1 (ji10)) : Int).toNat true) := ⟨_, rfl⟩
     replace H : (if (rd x6_1 (ji10)) < (l0.length : Int) then (qj.l1 k1 l0 y306 y302 ((rd_T86 l0 (rd x6_1 (ji10))).f4) (((rd_T86 l0 (rd x6_1 (ji10))).f4).length : Int) 0) else (none)) = some r := by (rw [hy306]; with_reducible exact H)
     have Ny306 := Am hy306
     clear hy306
     replace H := ino H
     obtain ⟨c22, H⟩ := H
     have c22b0 : decide ((rd x6_1 (ji10)) < (l0.length : Int)) = true := decide_eq_true c22
     clear c22
     have H' := Am H
     clear H
     obtain ⟨Ao23, co23, eo23⟩ := Kd.R_slice HO_6.out
     subst eo23
     have p301 : 0 ≤ ((ji10) : Int) := od (by assumption)
     have q301 : (ji10) < (x6_1.length : Int) := od (by assumption)
     obtain ⟨ad301, e301, hx301_0⟩ := Kd.at_int (Kd.R_reads' HO_6.out).2.2 (ji10) p301 q301
     cases e301
     replace p301 := eq_true p301
     replace q301 := eq_true q301
     have q24 : ((ji10) : Int) ≤ ((x6_1.length : Int) : Int) := od (by assumption)
     obtain ⟨i024, hi024, _, hsz24, _⟩ := info_parts info2
     have hcut24 := cut_to (P := Tryz.prog) 38 2 .i64 Tryz.underlying38 hi024 (some ad301) x6_1.length co23 (ji10) (od (by assumption)) q24 (Kd.R_reads' HO_6.out).2.1
     have hr24 := Kd.R_take (m := ((ji10) : Int).toNat) HO_6.out (by omega)
     have hy24 : y302.length = ((ji10) : Int).toNat := (by rw [Ny302.out, List.length_take]; omega)
     rw [← Ny302.out] at hr24
     rw [← hy24] at hr24 hcut24
     clear hy24 hi024 hsz24 HO_6
     have HO304 := Am hr24
     clear hr24
     replace q24 := eq_true q24
     obtain ⟨Ao25, co25, eo25⟩ := Kd.R_slice HO_5.out
     subst eo25
     have p305 : 0 ≤ ((rd x6_1 (ji10)) : Int) := od (by assumption)
     have q305 : (rd x6_1 (ji10)) < (x5_1.length : Int) := od (by assumption)
     obtain ⟨ad305, e305, hx305_0⟩ := Kd.at_bool (Kd.R_reads' HO_5.out).2.2 (rd x6_1 (ji10)) p305 q305
     (try rw [← Nbq16.out] at hx305_0)
     cases e305
     replace p305 := eq_true p305
     replace q305 := eq_true q305
     have p21 : 0 ≤ ((rd x6_1 (ji10)) : Int) := od (by assumption)
     have q21 : ((rd x6_1 (ji10)) : Int) < ((x5_1.length : Int) : Int) := od (by assumption)
     obtain ⟨go21, co21, eo21, gb21, gl21, cl21, HG21⟩ := Kd.R_form HO_5.out (by omega)
     (cases eo21)
     have GB21 := Am gb21
     have GG21 := Am HG21
     clear gb21 gl21 HG21
     (simp only [add_plain] at hx305_0)
     obtain ⟨hx21_0, hf21_0⟩ := Kd.R_celln false HO_5.out ((rd x6_1 (ji10)) : Int) p21 q21
     replace p21 := eq_true p21
     replace q21 := eq_true q21
     have HP26 := Kd.R_putg HO_5.out ((rd x6_1 (ji10)) : Int) true
     go_wp2_with (((with_reducible refine gate_store (t := 4) (p := 38) rfl ?_); refine store_event (t := 4) (p := 38) (v := ?vo_w27) (w1 := (wr.setCell ⟨go21, ((rd x6_1 (ji10)) : Int).toNat, none⟩ (.bool true))) ?hg ?ho ?hn ?hr ?_; (case ho => rfl); (case hg => rfl); (case hn => rfl); (case hr => (go_simp; done)); intro w27 hw; have hg : wr.grownBy w27 (some go21) := (by rw [hw]; exact HP26.2); have hp_ : Kd.R Kd.bool 4 w27 w.heap.size (fun _ => True) (.slice (some ⟨go21, 0, none⟩) x5_1.length co25) y306 := (by rw [hw, Ny306.out]; exact HP26.1); clear HP26; replace HO304 := Am (Kd.R_over' (v := (.slice (some ⟨go21, 0, none⟩) x5_1.length co25)) HO304.out (Kd.R_typed HO_5.out) (by decide) hg); replace HO_5 := Am hp_; replace HB := Am ((by rw [hw]; exact below_set (HB.out) GB21.out : Below w.heap.size w w27)); clear hg hw hp_; have p307 : 0 ≤ ((rd x6_1 (ji10)) : Int) := od (by assumption); have q307 : (rd x6_1 (ji10)) < (l0.length : Int) := od (by assumption); obtain ⟨ad307, A307_3, c307_3, A307_4, c307_4, e307, hx307_0, hx307_1, hx307_2, hx307_3, hx307_4, hl307_3, hi307_3, hl307_4, hi307_4⟩ := at_T86 HR0.out (rd x6_1 (ji10)) p307 q307; cases e307; replace hx307_0 := pcb HB.out hx307_0; replace hx307_1 := pcb HB.out hx307_1; replace hx307_2 := pcb HB.out hx307_2; replace hx307_3 := pcb HB.out hx307_3; replace hx307_4 := pcb HB.out hx307_4; have HR307_3 := Am hi307_3; have HC307_3 := Am hl307_3; clear hi307_3 hl307_3; have HR307_4 := Am hi307_4; have HC307_4 := Am hl307_4; clear hi307_4 hl307_4; replace p307 := eq_true p307; replace q307 := eq_true q307))
     go_loopg [6, 45] k1 (fun kq v6 v45 w' => ∃ (x6_2 : List Int) (x45_2 : Int), v45 = .int .i64 x45_2 ∧ Aside0 (qj.l1 kq l0 y306 x6_2 ((rd_T86 l0 (rd x6_1 (ji10))).f4) (((rd_T86 l0 (rd x6_1 (ji10))).f4).length : Int) x45_2 = some r) ∧ Aside0 (kq ≤ k1) ∧ Aside0 (Kd.R Kd.bool 4 w' w.heap.size (fun _ => True) (.slice (some ⟨go21, 0, none⟩) x5_1.length co25) y306) ∧ Aside0 (Kd.R (Kd.int .i64) 2 w' w.heap.size (fun _ => True) v6 x6_2) ∧ Aside0 (Below w.heap.size w w'))
     case atStart => exact ⟨(y302), (0), (by rfl), H', ⟨Nat.le_refl _⟩, ⟨by exact HO_5.out⟩, ⟨by exact HO304.out⟩, ⟨HB.out⟩⟩
     case round =>
      clear H'
      try clear c9b0
      try clear c9b1
      try clear c11b0
      try clear c12b0
      try clear c13b0
      try clear c13b1
      try clear c14b0
      try clear c15b0
      try clear p21
      try clear q21
      try clear c22b0
      try clear q24
      try clear hx21_0
      try clear hx301_0
      try clear hx305_0
      try clear hx307_0
      try clear hx307_1
      try clear hx307_2
      try clear hx307_3
      try clear hx307_4
      try clear p301
      try clear p305
      try clear p307
      try clear q301
      try clear q305
      try clear q307
      obtain ⟨x6_2, x45_2, rfl, HA, HK2, HO_5, HO_6, HB⟩ := hrel
      have hl5_2 := (Kd.R_reads' HO_5.out).1
      rw [hl5_2] at HO_5
      (try simp only [hl5_2])
      cases gk with
      | zero => exact absurd HA.out (by simp [qj.l1])
      | succ k2 =>
       have H := HA.out
       clear HA
       simp only [qj.l1] at H
       by_cases c28 : x45_2 < (((rd_T86 l0 (rd x6_1 (ji10))).f4).length : Int)
       ·rw [if_pos c28] at H
        have c28b0 : decide (x45_2 < (((rd_T86 l0 (rd x6_1 (ji10))).f4).length : Int)) = true := decide_eq_true c28
        clear c28
        replace H := ino H
        obtain ⟨c29, H⟩ := H
        have c29b0 : decide (0 ≤ x45_2) = true := decide_eq_true c29
        clear c29
        replace H := ino H
        obtain ⟨c30, H⟩ := H
        have c30b0 : decide (x45_2 < (((rd_T86 l0 (rd x6_1 (ji10))).f4).length : Int)) = true := decide_eq_true c30
        clear c30
        replace H := ino H
        obtain ⟨c31, H⟩ := H
        have LMc31 := Am c31
        clear c31
        obtain ⟨y310, hy310⟩ : ∃ y_ : List Int, y_ = (x6_2 ++ [(rd_T143 ((rd_T86 l0 (rd x6_1 (ji10))).f4) x45_2).f1]) := ⟨_, rfl⟩
        replace H : (qj.l1 k2 l0 y306 y310 ((rd_T86 l0 (rd x6_1 (ji10))).f4) (((rd_T86 l0 (rd x6_1 (ji10))).f4).length : Int) (wrap64 (x45_2 + 1))) = some r := by (rw [hy310]; with_reducible exact H)
        have Ny310 := Am hy310
        clear hy310
        have H' := Am H
        clear H
        have p308 : 0 ≤ (x45_2 : Int) := od (by assumption)
        have q308 : x45_2 < (((rd_T86 l0 (rd x6_1 (ji10))).f4).length : Int) := od (by assumption)
        obtain ⟨ad308, e308, hx308_0, hx308_1⟩ := at_T143 HR307_4.out x45_2 p308 q308
        cases e308
        replace hx308_0 := pcb HB.out hx308_0
        replace hx308_1 := pcb HB.out hx308_1
        replace p308 := eq_true p308
        replace q308 := eq_true q308
        go_wp2_with (first | ((with_reducible refine gate_dst (N := 9) rfl ?_); refine box_event ?hg (N := 9) ?hd (cs := #[.string (⟨#[]⟩ : ByteArray), .int .i64 0]) (t := 143) ?hr ?_; (case hd => rfl); (case hg => rfl); (case hr => (go_simp; done)); intro gb309 hg w32 hbox hb; replace HO_5 := Am (Kd.R_below HO_5.out hb); replace HO_6 := Am (Kd.R_below HO_6.out hb); have BK309 := Am hbox; have GW309 := Am ((nge hg HB.out)); have GE309 := Am ((nge hg HB.out)); replace HB := Am (below_step HB.out hb); clear hb hbox hg; obtain ⟨hcz33_0, hcz33_1, hfz33_0, hfz33_1⟩ := cb2 BK309.out) | ((with_reducible refine gate_builtin (b := .append) (xs := #[.tmp 49, .tmp 52]) rfl ?_); at_builtin; refine Kd.R_append (Kd.int .i64) (w0 := w) w.heap.size rfl (.tmp 49) (.tmp 52) 38 2 (.int .i64 0) 8 rfl Tryz.underlying38 info2 rfl (by decide) (by omega) u6 x6_2 ((rd_T143 ((rd_T86 l0 (rd x6_1 (ji10))).f4) x45_2).f1) [.int .i64 ((rd_T143 ((rd_T86 l0 (rd x6_1 (ji10))).f4) x45_2).f1)] (fun _ => True) (fun _ => False) rfl (by (go_simp; done)) ?aP (fun _ hk => hk.elim) ?aF ?aO ?aB ?aS ?aL ?_; (case aP => exact rfl); (case aB => exact (by repeat ((with_reducible first | exact HB.out | refine below_set ?_ GE309.out)))); (case aF => exact (fun _ _ => trivial)); (case aO => exact (by exact Kd.R_mono (Kd.R_far (p := ⟨gb309, 1, none⟩) (Kd.R_far (p := ⟨gb309, 0, none⟩) (Kd.R_types HO_6.out BK309.out (by decide)) (fun _ hk => hk.2) (.string ((rd_T143 ((rd_T86 l0 (rd x6_1 (ji10))).f4) x45_2).f0))) (fun _ hk => hk.2) (.int .i64 ((rd_T143 ((rd_T86 l0 (rd x6_1 (ji10))).f4) x45_2).f1))) (fun _ hk => trivial))); (case aS => exact (below_size (by repeat ((with_reducible first | exact HB.out | refine below_set ?_ GE309.out))))); (case aL => have := LMc31.out; omega); intro v311 w34 ho hb hg hat; rw [← Ny310.out] at ho; replace HO_5 := Am (Kd.R_over' (by exact (Kd.R_mono (Kd.R_far (p := ⟨gb309, 1, none⟩) (Kd.R_far (p := ⟨gb309, 0, none⟩) (Kd.R_types HO_5.out BK309.out (by decide)) (fun _ hk => hk.2) (.string ((rd_T143 ((rd_T86 l0 (rd x6_1 (ji10))).f4) x45_2).f0))) (fun _ hk => hk.2) (.int .i64 ((rd_T143 ((rd_T86 l0 (rd x6_1 (ji10))).f4) x45_2).f1))) (fun _ h_ => h_.1))) (Kd.R_typed (by exact (Kd.R_mono (Kd.R_far (p := ⟨gb309, 1, none⟩) (Kd.R_far (p := ⟨gb309, 0, none⟩) (Kd.R_types HO_6.out BK309.out (by decide)) (fun _ hk => hk.2) (.string ((rd_T143 ((rd_T86 l0 (rd x6_1 (ji10))).f4) x45_2).f0))) (fun _ hk => hk.2) (.int .i64 ((rd_T143 ((rd_T86 l0 (rd x6_1 (ji10))).f4) x45_2).f1))) (fun _ h_ => h_.1)))) (by decide) hg); replace BK309 := Am (blk_grown (g := gb309) (o := .cells #[.string ((rd_T143 ((rd_T86 l0 (rd x6_1 (ji10))).f4) x45_2).f0), .int .i64 ((rd_T143 ((rd_T86 l0 (rd x6_1 (ji10))).f4) x45_2).f1)] 143 (0, 0)) (by refine blk_put (cs := #[.string ((rd_T143 ((rd_T86 l0 (rd x6_1 (ji10))).f4) x45_2).f0), .int .i64 0]) ?_ 1 _ rfl; refine blk_put (cs := #[.string (⟨#[]⟩ : ByteArray), .int .i64 0]) ?_ 0 _ rfl; exact BK309.out) hg (Kd.R_ne HO_6.out BK309.out (by decide))); replace HB := Am hb; have HO312 := Am ho; clear HO_6; clear ho hb hg hat))
        (try simp only [← hl5_2])
        go_roundg k2
        case measure => have := HK1.out; have := HK2.out; omega
        case rel => exact ⟨(y310), (wrap64 (x45_2 + 1)), (by rfl), H', ⟨by have := HK1.out; have := HK2.out; omega⟩, ⟨by (try simp only [hl5_2]); exact HO_5.out⟩, ⟨by exact HO312.out⟩, ⟨HB.out⟩⟩
       ·rw [if_neg c28] at H
        have c28b0 : decide (x45_2 < (((rd_T86 l0 (rd x6_1 (ji10))).f4).length : Int)) = false := decide_eq_false c28
        clear c28
        have H' := Am H
        clear H
        go_wp2
        (try simp only [← hl5_2])
        go_roundg k2
        case measure => have := HK1.out; have := HK2.out; omega
        case rel => exact ⟨(y306), (x6_2), H', ⟨by have := HK1.out; have := HK2.out; omega⟩, ⟨by (try simp only [hl5_2]); exact HO_5.out⟩, ⟨by exact HO_6.out⟩, ⟨HB.out⟩⟩
   ·rw [if_neg c9] at H
    have c9b0 : decide (0 < (x6_1.length : Int)) = false := decide_eq_false c9
    have c9b1 : decide (0 < x6_1.length) = false := decide_eq_false (by omega)
    clear c9
    have H' := Am H
    clear H
    obtain ⟨Ao35, co35, eo35⟩ := Kd.R_slice HO_6.out
    subst eo35
    obtain ⟨Ao36, co36, eo36⟩ := Kd.R_slice HO_5.out
    subst eo36
    go_wp2
    go_loopg [10, 57] k1 (fun kq v10 v57 w' => ∃ (x10_2 : List Int) (x57_2 : Int), v57 = .int .i64 x57_2 ∧ Aside0 (qj.l2 kq x10_2 x5_1 (x5_1.length : Int) x57_2 = some r) ∧ Aside0 (kq ≤ k1) ∧ Aside0 (Kd.R (Kd.int .i64) 2 w' w.heap.size (fun _ => True) v10 x10_2) ∧ Aside0 (Kd.R Kd.bool 4 w' w.heap.size (fun _ => True) (.slice Ao36 x5_1.length co36) x5_1) ∧ Aside0 (Below w.heap.size w w'))
    case atStart => exact ⟨(([] : List Int)), (0), (by rfl), H', ⟨Nat.le_refl _⟩, ⟨by exact Kd.R_nil _ _ _ _ _⟩, ⟨by exact HO_5.out⟩, ⟨HB.out⟩⟩
    case round =>
     clear H'
     try clear c9b0
     try clear c9b1
     obtain ⟨x10_2, x57_2, rfl, HA, HK2, HO_10, HO_55, HB⟩ := hrel
     cases gk with
     | zero => exact absurd HA.out (by simp [qj.l2])
     | succ k2 =>
      have H := HA.out
      clear HA
      simp only [qj.l2] at H
      by_cases c37 : x57_2 < (x5_1.length : Int)
      ·rw [if_pos c37] at H
       have c37b0 : decide (x57_2 < (x5_1.length : Int)) = true := decide_eq_true c37
       clear c37
       replace H := ino H
       obtain ⟨c38, H⟩ := H
       have c38b0 : decide (0 ≤ x57_2) = true := decide_eq_true c38
       clear c38
       replace H := ino H
       obtain ⟨c39, H⟩ := H
       have c39b0 : decide (x57_2 < (x5_1.length : Int)) = true := decide_eq_true c39
       clear c39
       obtain ⟨bq40, hbq40⟩ : ∃ b_ : Bool, b_ = (rdOf false x5_1 x57_2) := ⟨_, rfl⟩
       replace H : (if bq40 = true then (if x10_2.length < 17592186044416 then (qj.l2 k2 (x10_2 ++ [x57_2]) x5_1 (x5_1.length : Int) (wrap64 (x57_2 + 1))) else (none)) else (qj.l2 k2 x10_2 x5_1 (x5_1.length : Int) (wrap64 (x57_2 + 1)))) = some r := by rw [← hbq40] at H; exact H
       have Nbq40 := Am hbq40
       clear hbq40
       by_cases c41 : bq40 = true
       ·subst c41
        have H1 : (if x10_2.length < 17592186044416 then (qj.l2 k2 (x10_2 ++ [x57_2]) x5_1 (x5_1.length : Int) (wrap64 (x57_2 + 1))) else (none)) = some r := by rw [if_pos rfl] at H; exact H
        clear H
        have H := H1
        clear H1
        replace H := ino H
        obtain ⟨c42, H⟩ := H
        have LMc42 := Am c42
        clear c42
        obtain ⟨y314, hy314⟩ : ∃ y_ : List Int, y_ = (x10_2 ++ [x57_2]) := ⟨_, rfl⟩
        replace H : (qj.l2 k2 y314 x5_1 (x5_1.length : Int) (wrap64 (x57_2 + 1))) = some r := by (rw [hy314]; with_reducible exact H)
        have Ny314 := Am hy314
        clear hy314
        have H' := Am H
        clear H
        have p313 : 0 ≤ (x57_2 : Int) := od (by assumption)
        have q313 : x57_2 < (x5_1.length : Int) := od (by assumption)
        obtain ⟨ad313, e313, hx313_0⟩ := Kd.at_bool (Kd.R_reads' HO_55.out).2.2 x57_2 p313 q313
        (try rw [← Nbq40.out] at hx313_0)
        cases e313
        replace p313 := eq_true p313
        replace q313 := eq_true q313
        go_wp2_with (((with_reducible refine gate_builtin (b := .append) (xs := #[.tmp 63, .tmp 65]) rfl ?_); at_builtin; refine Kd.R_append (Kd.int .i64) (w0 := w) w.heap.size rfl (.tmp 63) (.tmp 65) 38 2 (.int .i64 0) 8 rfl Tryz.underlying38 info2 rfl (by decide) (by omega) u10 x10_2 x57_2 [.int .i64 x57_2] (fun _ => True) (fun _ => False) rfl rfl ?aP (fun _ hk => hk.elim) ?aF ?aO ?aB ?aS ?aL ?_; (case aP => exact rfl); (case aB => exact HB.out); (case aF => exact (fun _ _ => trivial)); (case aO => exact HO_10.out); (case aS => exact (below_size HB.out)); (case aL => have := LMc42.out; omega); intro v315 w43 ho hb hg hat; rw [← Ny314.out] at ho; replace HO_55 := Am (Kd.R_over' HO_55.out (Kd.R_typed HO_10.out) (by decide) hg); replace HB := Am hb; have HO316 := Am ho; clear HO_10; clear ho hb hg hat))
        go_roundg k2
        case measure => have := HK1.out; have := HK2.out; omega
        case rel => exact ⟨(y314), (wrap64 (x57_2 + 1)), (by rfl), H', ⟨by have := HK1.out; have := HK2.out; omega⟩, ⟨by exact HO316.out⟩, ⟨by exact HO_55.out⟩, ⟨HB.out⟩⟩
       ·replace c41 := Bool.eq_false_iff.mpr c41
        subst c41
        have H1 : (qj.l2 k2 x10_2 x5_1 (x5_1.length : Int) (wrap64 (x57_2 + 1))) = some r := by rw [if_neg (show ¬ (false = true) by decide)] at H; exact H
        clear H
        have H := H1
        clear H1
        have H' := Am H
        clear H
        have p313 : 0 ≤ (x57_2 : Int) := od (by assumption)
        have q313 : x57_2 < (x5_1.length : Int) := od (by assumption)
        obtain ⟨ad313, e313, hx313_0⟩ := Kd.at_bool (Kd.R_reads' HO_55.out).2.2 x57_2 p313 q313
        (try rw [← Nbq40.out] at hx313_0)
        cases e313
        replace p313 := eq_true p313
        replace q313 := eq_true q313
        go_wp2
        go_roundg k2
        case measure => have := HK1.out; have := HK2.out; omega
        case rel => exact ⟨(x10_2), (wrap64 (x57_2 + 1)), (by rfl), H', ⟨by have := HK1.out; have := HK2.out; omega⟩, ⟨by exact HO_10.out⟩, ⟨by exact HO_55.out⟩, ⟨HB.out⟩⟩
      ·rw [if_neg c37] at H
       have c37b0 : decide (x57_2 < (x5_1.length : Int)) = false := decide_eq_false c37
       clear c37
       obtain rfl := Option.some.inj H
       go_wp2
       go_ret
       exact ⟨_, by rfl, by exact HO_10.out, HB.out⟩
end Go.Proofs.YtafhjhdohclchaaGreatDoor.G
namespace Go.Proofs.YtafhjhdohclchaaGreatDoor.G
open Go.RowKit Go.Proofs.YtafhjhdohclchaaGreatDoorW.PrintWords Go.Proofs.YtafhjhdohclchaaGreatDoorW.PrintLast Go.Proofs.YtafhjhdohclchaaGreatDoorW.PrintMore
attribute [local go_sem] min2_int min_two
attribute [local go_sem high] str_leq
attribute [local go_sem] binOp_string_geq
mutual
def qf.l0 : Nat → List Int → List (S86) → Int → Int → List (S86) → List (List Int) → Option (Int)
 | 0, _, _, _, _, _, _ => none
 | k + 1, x3, x12, x13, x14, x322000, x322001 => if x14 < x13 then (if 0 ≤ x14 then (if x14 < (x12.length : Int) then ((qg.f k x322000 x14).bind fun t327 => (if ((rd_T86 x12 x14).f0) = 1 then (qf.j1 k x3 x14 t327 x12 x13 x14 (((rd_T86 x12 x14).f1) != t327) x322000 x322001 ((rd_T86 x12 x14).f0) ((rd_T86 x12 x14).f1) ((rd_T86 x12 x14).f2) ((rd_T86 x12 x14).f3) ((rd_T86 x12 x14).f4)) else (qf.j1 k x3 x14 t327 x12 x13 x14 false x322000 x322001 ((rd_T86 x12 x14).f0) ((rd_T86 x12 x14).f1) ((rd_T86 x12 x14).f2) ((rd_T86 x12 x14).f3) ((rd_T86 x12 x14).f4)))) else (none)) else (none)) else (some 0)
def qf.j1 : Nat → List Int → Int → Int → List (S86) → Int → Int → Bool → List (S86) → List (List Int) → Int → Int → Int → List Int → List (S143) → Option (Int)
 | 0, _, _, _, _, _, _, _, _, _, _, _, _, _, _ => none
 | k + 1, x3, x6, x7, x12, x13, x14, x24, x322000, x322001, x327000, x327001, x327002, x327003, x327004 => if x24 = true then (some 1) else (if x327000 = 2 then (if x6 = 0 then (qf.j2 k x3 x6 x7 x12 x13 x14 (x7 != 0) x322000 x322001 x327000 x327001 x327002 x327003 x327004) else (qf.j2 k x3 x6 x7 x12 x13 x14 false x322000 x322001 x327000 x327001 x327002 x327003 x327004)) else (qf.j2 k x3 x6 x7 x12 x13 x14 false x322000 x322001 x327000 x327001 x327002 x327003 x327004))
def qf.j2 : Nat → List Int → Int → Int → List (S86) → Int → Int → Bool → List (S86) → List (List Int) → Int → Int → Int → List Int → List (S143) → Option (Int)
 | 0, _, _, _, _, _, _, _, _, _, _, _, _, _, _ => none
 | k + 1, x3, x6, x7, x12, x13, x14, x24, x322000, x322001, x327000, x327001, x327002, x327003, x327004 => if x24 = true then (some 1) else (if x327000 = 2 then (if x6 > 0 then (qf.j3 k x3 x6 x12 x13 x14 (x7 != 1) x322000 x322001 x327000 x327001 x327002 x327003 x327004) else (qf.j3 k x3 x6 x12 x13 x14 false x322000 x322001 x327000 x327001 x327002 x327003 x327004)) else (qf.j3 k x3 x6 x12 x13 x14 false x322000 x322001 x327000 x327001 x327002 x327003 x327004))
def qf.j3 : Nat → List Int → Int → List (S86) → Int → Int → Bool → List (S86) → List (List Int) → Int → Int → Int → List Int → List (S143) → Option (Int)
 | 0, _, _, _, _, _, _, _, _, _, _, _, _, _ => none
 | k + 1, x3, x6, x12, x13, x14, x24, x322000, x322001, x327000, x327001, x327002, x327003, x327004 => if x24 = true then (some 1) else (if x327000 = 0 then (qf.l0 k x3 x12 x13 (wrap64 (x14 + 1)) x322000 x322001) else ((q1l.f k x3 x6).bind fun t328 => (if t328 = true then (qf.l0 k x3 x12 x13 (wrap64 (x14 + 1)) x322000 x322001) else (some 1))))
end
def qf.f (k : Nat) (l0_0 : List (S86)) (l0_1 : List (List Int)) : Option (Int) := (qj.f k l0_0 0).bind fun t322 => (qf.l0 k t322 l0_0 (l0_0.length : Int) 0 l0_0 l0_1)
theorem qf.mono_l : ∀ k, (∀ y0 y1 y2 y3 y4 y5, LeO (qf.l0 k y0 y1 y2 y3 y4 y5) (qf.l0 (k + 1) y0 y1 y2 y3 y4 y5)) ∧ (∀ y0 y1 y2 y3 y4 y5 y6 y7 y8 y9 y10 y11 y12 y13, LeO (qf.j1 k y0 y1 y2 y3 y4 y5 y6 y7 y8 y9 y10 y11 y12 y13) (qf.j1 (k + 1) y0 y1 y2 y3 y4 y5 y6 y7 y8 y9 y10 y11 y12 y13)) ∧ (∀ y0 y1 y2 y3 y4 y5 y6 y7 y8 y9 y10 y11 y12 y13, LeO (qf.j2 k y0 y1 y2 y3 y4 y5 y6 y7 y8 y9 y10 y11 y12 y13) (qf.j2 (k + 1) y0 y1 y2 y3 y4 y5 y6 y7 y8 y9 y10 y11 y12 y13)) ∧ (∀ y0 y1 y2 y3 y4 y5 y6 y7 y8 y9 y10 y11 y12, LeO (qf.j3 k y0 y1 y2 y3 y4 y5 y6 y7 y8 y9 y10 y11 y12) (qf.j3 (k + 1) y0 y1 y2 y3 y4 y5 y6 y7 y8 y9 y10 y11 y12))
 | 0 => ⟨fun _ _ _ _ _ _ r h => by simp [qf.l0] at h, fun _ _ _ _ _ _ _ _ _ _ _ _ _ _ r h => by simp [qf.j1] at h, fun _ _ _ _ _ _ _ _ _ _ _ _ _ _ r h => by simp [qf.j2] at h, fun _ _ _ _ _ _ _ _ _ _ _ _ _ r h => by simp [qf.j3] at h⟩
 | k + 1 => by
  obtain ⟨ih0, ih1, ih2, ih3⟩ := qf.mono_l k
  refine ⟨?_, ?_, ?_, ?_⟩
  ·intro y0 y1 y2 y3 y4 y5
   unfold qf.l0
   repeat' first | (with_reducible exact ih1 _ _ _ _ _ _ _ _ _ _ _ _ _ _) | (with_reducible exact qg.mono _ _ _) | (with_reducible exact LeO.refl _) | (with_reducible refine LeO.ite ?_ ?_) | (with_reducible refine LeO.bind ?_ (fun _ => ?_))
  ·intro y0 y1 y2 y3 y4 y5 y6 y7 y8 y9 y10 y11 y12 y13
   unfold qf.j1
   repeat' first | (with_reducible exact ih2 _ _ _ _ _ _ _ _ _ _ _ _ _ _) | (with_reducible exact LeO.refl _) | (with_reducible refine LeO.ite ?_ ?_)
  ·intro y0 y1 y2 y3 y4 y5 y6 y7 y8 y9 y10 y11 y12 y13
   unfold qf.j2
   repeat' first | (with_reducible exact ih3 _ _ _ _ _ _ _ _ _ _ _ _ _) | (with_reducible exact LeO.refl _) | (with_reducible refine LeO.ite ?_ ?_)
  ·intro y0 y1 y2 y3 y4 y5 y6 y7 y8 y9 y10 y11 y12
   unfold qf.j3
   repeat' first | (with_reducible exact ih0 _ _ _ _ _ _) | (with_reducible exact q1l.mono _ _ _) | (with_reducible exact LeO.refl _) | (with_reducible refine LeO.ite ?_ ?_) | (with_reducible refine LeO.bind ?_ (fun _ => ?_))
theorem qf.mono : ∀ a0 a1 k, LeO (qf.f k a0 a1) (qf.f (k + 1) a0 a1) := by
 intro a0 a1 k
 obtain ⟨ih0, ih1, ih2, ih3⟩ := qf.mono_l k
 unfold qf.f
 repeat' first | (with_reducible exact ih0 _ _ _ _ _ _) | (with_reducible exact qj.mono _ _ _) | (with_reducible refine LeO.bind ?_ (fun _ => ?_))
set_option maxHeartbeats 8000000 in
set_option maxRecDepth 100000 in
theorem qf.calls (k : Nat) (A0_0 : Option Addr) (c0_0 : Nat) (l0_0 : List (S86)) (A0_1 : Option Addr) (c0_1 : Nat) (l0_1 : List (List Int)) (r : Int) (w : World) (hr0_0 : Kd.C k86 w A0_0 l0_0.length l0_0) (hc0_0 : l0_0.length ≤ c0_0) (hr0_1 : Kd.C (Kd.slice 5 (Kd.int .u8)) w A0_1 l0_1.length l0_1) (hc0_1 : l0_1.length ≤ c0_1) (h : qf.f k l0_0 l0_1 = some r) :
  Calls Tryz.prog 105 #[.agg #[.slice A0_0 l0_0.length c0_0, .slice A0_1 l0_1.length c0_1]] w fun e w' => e = .returned (.int .i64 r) ∧ Below w.heap.size w w' := by
 have hu28 := Tryz.underlying28
 have hu86 := Tryz.underlying86
 have HR0_0 := Am hr0_0
 have HC0_0 := Am hc0_0
 clear hr0_0 hc0_0
 have HR0_1 := Am hr0_1
 have HC0_1 := Am hc0_1
 clear hr0_1 hc0_1
 have HB := Am (Below.refl w.heap.size w)
 have H : ((qj.f k l0_0 0).bind fun t322 => (qf.l0 k t322 l0_0 (l0_0.length : Int) 0 l0_0 l0_1)) = some r := h
 clear h
 replace H := zbs H
 obtain ⟨t322, A2, H⟩ := H
 have H' := Am H
 clear H
 go_enter Tryz.func105, Tryz.ntmps105
 go_wp2_with (first | ((with_reducible refine gate_dst (N := 1) rfl ?_); refine box_event ?hg (N := 1) ?hd (cs := #[.slice A0_0 l0_0.length c0_0, .slice A0_1 l0_1.length c0_1]) (t := 28) ?hr ?_; (case hd => rfl); (case hg => rfl); (case hr => (go_simp; done)); intro gb321 hg w3 hbox hb; have BK321 := Am hbox; have GW321 := Am ((nge hg HB.out)); have GE321 := Am ((nge hg HB.out)); replace HB := Am (below_step HB.out hb); clear hb hbox hg; obtain ⟨hcz4_0, hcz4_1, hfz4_0, hfz4_1⟩ := cb2 BK321.out) | ((with_reducible refine gate_callee (f := 175) rfl ?_); refine goesL_ (some 10) rfl rfl Tryz.func175 (by kernel_rfl) rfl #[.slice A0_0 l0_0.length c0_0, .int .i64 0] rfl (by (try simp only [List.map_toArray, List.map_cons, List.map_nil]); rfl) ?_; (with_reducible refine (qj.calls k _ _ l0_0 0 t322 _ ?side1 ?side2 A2.out).mono ?_); (case side1 => repeat (exact (Kd.C_below HR0_0.out HB.out))); (case side2 => exact HC0_0.out); rintro e w5 ⟨v323, rfl, ho0, hb⟩; refine ⟨_, rfl, ?_⟩; have HO324 := Am (Kd.R_lower ho0 (below_size HB.out)); replace BK321 := Am (blk_below (g := gb321) (o := .cells #[.slice A0_0 l0_0.length c0_0, .slice A0_1 l0_1.length c0_1] 28 (0, 0)) BK321.out hb); replace HB := Am (below_step HB.out hb); (try clear hb); (try clear ho0); obtain ⟨hcz6_0, hcz6_1, hfz6_0, hfz6_1⟩ := cb2 BK321.out))
 go_loopg [14] k (fun kq v14 w' => ∃ (x14_1 : Int), v14 = .int .i64 x14_1 ∧ Aside0 (qf.l0 kq t322 l0_0 (l0_0.length : Int) x14_1 l0_0 l0_1 = some r) ∧ Aside0 (kq ≤ k) ∧ Aside0 (Kd.R (Kd.int .i64) 2 w' w.heap.size (fun _ => True) v323 t322) ∧ Aside0 (w'.heap[gb321]? = some (.cells #[(.slice A0_0 l0_0.length c0_0), (.slice A0_1 l0_1.length c0_1)] 28 (0, 0))) ∧ Aside0 (Below w.heap.size w w'))
 case atStart => exact ⟨(0), (by rfl), H', ⟨Nat.le_refl _⟩, ⟨by exact HO324.out⟩, ⟨by exact BK321.out⟩, ⟨HB.out⟩⟩
 case round =>
  clear H'
  try clear hcz4_0
  try clear hcz4_1
  try clear hcz6_0
  try clear hcz6_1
  try clear hfz4_0
  try clear hfz4_1
  try clear hfz6_0
  try clear hfz6_1
  obtain ⟨x14_1, rfl, HA, HK1, HO_3, BK321, HB⟩ := hrel
  cases gk with
  | zero => exact absurd HA.out (by simp [qf.l0])
  | succ k1 =>
   have H := HA.out
   clear HA
   simp only [qf.l0] at H
   by_cases c7 : x14_1 < (l0_0.length : Int)
   ·rw [if_pos c7] at H
    have c7b0 : decide (x14_1 < (l0_0.length : Int)) = true := decide_eq_true c7
    clear c7
    replace H := ino H
    obtain ⟨c8, H⟩ := H
    have c8b0 : decide (0 ≤ x14_1) = true := decide_eq_true c8
    clear c8
    replace H := ino H
    obtain ⟨c9, H⟩ := H
    have c9b0 : decide (x14_1 < (l0_0.length : Int)) = true := decide_eq_true c9
    clear c9
    replace H := zbs H
    obtain ⟨t327, A10, H⟩ := H
    have HC11 := Am H
    clear H
    have p325 : 0 ≤ (x14_1 : Int) := od (by assumption)
    have q325 : x14_1 < (l0_0.length : Int) := od (by assumption)
    obtain ⟨ad325, A325_3, c325_3, A325_4, c325_4, e325, hx325_0, hx325_1, hx325_2, hx325_3, hx325_4, hl325_3, hi325_3, hl325_4, hi325_4⟩ := at_T86 HR0_0.out x14_1 p325 q325
    cases e325
    replace hx325_0 := pcb HB.out hx325_0
    replace hx325_1 := pcb HB.out hx325_1
    replace hx325_2 := pcb HB.out hx325_2
    replace hx325_3 := pcb HB.out hx325_3
    replace hx325_4 := pcb HB.out hx325_4
    have HR325_3 := Am hi325_3
    have HC325_3 := Am hl325_3
    clear hi325_3 hl325_3
    have HR325_4 := Am hi325_4
    have HC325_4 := Am hl325_4
    clear hi325_4 hl325_4
    replace p325 := eq_true p325
    replace q325 := eq_true q325
    go_upto_region 7 with (first | ((with_reducible refine gate_dst (N := 5) rfl ?_); refine box_event ?hg (N := 5) ?hd (cs := #[.int .i64 0, .int .i64 0, .int .i64 0, .slice none 0 0, .slice none 0 0]) (t := 86) ?hr ?_; (case hd => rfl); (case hg => rfl); (case hr => (go_simp; done)); intro gb326 hg w12 hbox hb; replace HO_3 := Am (Kd.R_below HO_3.out hb); have BK326 := Am hbox; have GW326 := Am ((nge hg HB.out)); have GE326 := Am ((nge hg HB.out)); replace HB := Am (below_step HB.out hb); have NB321_326 := Am ((nlt hg (g := gb321) (o := .cells #[.slice (some ad325) l0_0.length c0_0, .slice A0_1 l0_1.length c0_1] 28 (0, 0)) BK321.out)); have NB326_321 := Am ((ngt hg (g := gb321) (o := .cells #[.slice (some ad325) l0_0.length c0_0, .slice A0_1 l0_1.length c0_1] 28 (0, 0)) BK321.out)); replace BK321 := Am (blk_below (g := gb321) (o := .cells #[.slice (some ad325) l0_0.length c0_0, .slice A0_1 l0_1.length c0_1] 28 (0, 0)) BK321.out hb); clear hb hbox hg; have hnb13 := NB326_321.out; have hnc13 := NB321_326.out; have hcz14_0 : w12.cell? ⟨gb326, 0, none⟩ = some (.int .i64 0) := (blk_cell BK326.out 0).trans rfl; have hcz14_1 : w12.cell? ⟨gb326, 1, none⟩ = some (.int .i64 0) := (blk_cell BK326.out 1).trans rfl; have hcz14_2 : w12.cell? ⟨gb326, 2, none⟩ = some (.int .i64 0) := (blk_cell BK326.out 2).trans rfl; have hcz14_3 : w12.cell? ⟨gb326, 3, none⟩ = some (.slice none 0 0) := (blk_cell BK326.out 3).trans rfl; have hcz14_4 : w12.cell? ⟨gb326, 4, none⟩ = some (.slice none 0 0) := (blk_cell BK326.out 4).trans rfl; have hfz14_0 := blk_frozen BK326.out 0; have hfz14_1 := blk_frozen BK326.out 1; have hfz14_2 := blk_frozen BK326.out 2; have hfz14_3 := blk_frozen BK326.out 3; have hfz14_4 := blk_frozen BK326.out 4; have hcz15_0 : w12.cell? ⟨gb321, 0, none⟩ = some (.slice (some ad325) l0_0.length c0_0) := (blk_cell BK321.out 0).trans rfl; have hcz15_1 : w12.cell? ⟨gb321, 1, none⟩ = some (.slice A0_1 l0_1.length c0_1) := (blk_cell BK321.out 1).trans rfl; have hfz15_0 := blk_frozen BK321.out 0; have hfz15_1 := blk_frozen BK321.out 1) | ((with_reducible refine gate_callee (f := 176) rfl ?_); refine goesL_ (some 23) rfl rfl Tryz.func176 (by kernel_rfl) rfl #[.slice (some ad325) l0_0.length c0_0, .int .i64 x14_1] rfl (by (try simp only [List.map_toArray, List.map_cons, List.map_nil]); rfl) ?_; (with_reducible refine (qg.calls k1 _ _ l0_0 x14_1 t327 _ ?side1 ?side2 A10.out).mono ?_); (case side1 => exact Kd.C_below HR0_0.out (by repeat ((with_reducible first | exact HB.out | refine below_set ?_ GE326.out)))); (case side2 => exact HC0_0.out); rintro e w16 ⟨rfl, hb⟩; refine ⟨_, rfl, ?_⟩; replace HO_3 := Am (Kd.R_below (by exact (Kd.R_mono (Kd.R_far (p := ⟨gb326, 4, none⟩) (Kd.R_far (p := ⟨gb326, 3, none⟩) (Kd.R_far (p := ⟨gb326, 2, none⟩) (Kd.R_far (p := ⟨gb326, 1, none⟩) (Kd.R_far (p := ⟨gb326, 0, none⟩) (Kd.R_types HO_3.out BK326.out (by decide)) (fun _ hk => hk.2) (.int .i64 ((rd_T86 l0_0 x14_1).f0))) (fun _ hk => hk.2) (.int .i64 ((rd_T86 l0_0 x14_1).f1))) (fun _ hk => hk.2) (.int .i64 ((rd_T86 l0_0 x14_1).f2))) (fun _ hk => hk.2) (.slice A325_3 ((rd_T86 l0_0 x14_1).f3).length c325_3)) (fun _ hk => hk.2) (.slice A325_4 ((rd_T86 l0_0 x14_1).f4).length c325_4)) (fun _ h_ => h_.1))) hb); replace BK321 := Am (blk_below (g := gb321) (o := .cells #[.slice (some ad325) l0_0.length c0_0, .slice A0_1 l0_1.length c0_1] 28 (0, 0)) (by refine blk_far ?_ NB321_326.out _; refine blk_far ?_ NB321_326.out _; refine blk_far ?_ NB321_326.out _; refine blk_far ?_ NB321_326.out _; refine blk_far ?_ NB321_326.out _; exact BK321.out) hb); replace BK326 := Am (blk_below (g := gb326) (o := .cells #[.int .i64 ((rd_T86 l0_0 x14_1).f0), .int .i64 ((rd_T86 l0_0 x14_1).f1), .int .i64 ((rd_T86 l0_0 x14_1).f2), .slice A325_3 ((rd_T86 l0_0 x14_1).f3).length c325_3, .slice A325_4 ((rd_T86 l0_0 x14_1).f4).length c325_4] 86 (0, 0)) (by refine blk_put (cs := #[.int .i64 ((rd_T86 l0_0 x14_1).f0), .int .i64 ((rd_T86 l0_0 x14_1).f1), .int .i64 ((rd_T86 l0_0 x14_1).f2), .slice A325_3 ((rd_T86 l0_0 x14_1).f3).length c325_3, .slice none 0 0]) ?_ 4 _ rfl; refine blk_put (cs := #[.int .i64 ((rd_T86 l0_0 x14_1).f0), .int .i64 ((rd_T86 l0_0 x14_1).f1), .int .i64 ((rd_T86 l0_0 x14_1).f2), .slice none 0 0, .slice none 0 0]) ?_ 3 _ rfl; refine blk_put (cs := #[.int .i64 ((rd_T86 l0_0 x14_1).f0), .int .i64 ((rd_T86 l0_0 x14_1).f1), .int .i64 0, .slice none 0 0, .slice none 0 0]) ?_ 2 _ rfl; refine blk_put (cs := #[.int .i64 ((rd_T86 l0_0 x14_1).f0), .int .i64 0, .int .i64 0, .slice none 0 0, .slice none 0 0]) ?_ 1 _ rfl; refine blk_put (cs := #[.int .i64 0, .int .i64 0, .int .i64 0, .slice none 0 0, .slice none 0 0]) ?_ 0 _ rfl; exact BK326.out) hb); replace HB := Am (below_step (by repeat ((with_reducible first | exact HB.out | refine below_set ?_ GE326.out))) hb); (try clear hb)))
    go_cut [24] (fun v24 wc => ∃ (kq : Nat) (x24_10 : Bool), v24 = .bool x24_10 ∧ Aside0 (qf.j1 kq t322 x14_1 t327 l0_0 (l0_0.length : Int) x14_1 x24_10 l0_0 l0_1 ((rd_T86 l0_0 x14_1).f0) ((rd_T86 l0_0 x14_1).f1) ((rd_T86 l0_0 x14_1).f2) ((rd_T86 l0_0 x14_1).f3) ((rd_T86 l0_0 x14_1).f4) = some r) ∧ Aside0 (kq ≤ k1) ∧ Aside0 (Kd.R (Kd.int .i64) 2 wc w.heap.size (fun _ => True) v323 t322) ∧ Aside0 (wc.heap[gb321]? = some (.cells #[(.slice (some ad325) l0_0.length c0_0), (.slice A0_1 l0_1.length c0_1)] 28 (0, 0))) ∧ Aside0 (wc.heap[gb326]? = some (.cells #[.int .i64 ((rd_T86 l0_0 x14_1).f0), .int .i64 ((rd_T86 l0_0 x14_1).f1), .int .i64 ((rd_T86 l0_0 x14_1).f2), (.slice A325_3 ((rd_T86 l0_0 x14_1).f3).length c325_3), (.slice A325_4 ((rd_T86 l0_0 x14_1).f4).length c325_4)] 86 (0, 0))) ∧ Aside0 (Below w.heap.size w wc))
    case first =>
     have H := HC11.out
     clear HC11
     by_cases c17 : ((rd_T86 l0_0 x14_1).f0) = 1
     ·rw [if_pos c17] at H
      have c17b0 : (((rd_T86 l0_0 x14_1).f0) == 1) = true := beq_iff_eq.mpr c17
      have c17b1 : (((rd_T86 l0_0 x14_1).f0) != 1) = false := bne_eq_false_iff_eq.mpr c17
      clear c17
      have H' := Am H
      clear H
      have hnb18 := NB326_321.out
      have hnc18 := NB321_326.out
      obtain ⟨hcz19_0, hcz19_1, hcz19_2, hcz19_3, hcz19_4, hfz19_0, hfz19_1, hfz19_2, hfz19_3, hfz19_4⟩ := cb5 BK326.out
      go_wp2
      go_meet
      case rel => exact ⟨_, ((((rd_T86 l0_0 x14_1).f1) != t327)), (by rfl), H', ⟨by have := HK1.out; omega⟩, ⟨by exact HO_3.out⟩, ⟨by exact BK321.out⟩, ⟨by exact BK326.out⟩, ⟨HB.out⟩⟩
     ·rw [if_neg c17] at H
      have c17b0 : (((rd_T86 l0_0 x14_1).f0) == 1) = false := beq_eq_false_iff_ne.mpr c17
      have c17b1 : (((rd_T86 l0_0 x14_1).f0) != 1) = true := bne_iff_ne.mpr c17
      have H' := Am H
      clear H
      have hnb20 := NB326_321.out
      have hnc20 := NB321_326.out
      obtain ⟨hcz21_0, hcz21_1, hcz21_2, hcz21_3, hcz21_4, hfz21_0, hfz21_1, hfz21_2, hfz21_3, hfz21_4⟩ := cb5 BK326.out
      go_wp2
      go_meet
      case rel => exact ⟨_, (false), (by rfl), H', ⟨by have := HK1.out; omega⟩, ⟨by exact HO_3.out⟩, ⟨by exact BK321.out⟩, ⟨by exact BK326.out⟩, ⟨HB.out⟩⟩
    case rest =>
     clear HC11
     try clear c7b0
     try clear c8b0
     try clear c9b0
     try clear hcz14_0
     try clear hcz14_1
     try clear hcz14_2
     try clear hcz14_3
     try clear hcz14_4
     try clear hcz15_0
     try clear hcz15_1
     try clear hfz14_0
     try clear hfz14_1
     try clear hfz14_2
     try clear hfz14_3
     try clear hfz14_4
     try clear hfz15_0
     try clear hfz15_1
     try clear hx325_0
     try clear hx325_1
     try clear hx325_2
     try clear hx325_3
     try clear hx325_4
     try clear p325
     try clear q325
     obtain ⟨kq, x24_10, rfl, HA, HJ10, HO_3, BK321, BK326, HB⟩ := hcut
     cases kq with
     | zero => exact absurd HA.out (by simp [qf.j1])
     | succ kj10 =>
      have H := HA.out
      clear HA
      simp only [qf.j1] at H
      by_cases c22 : x24_10 = true
      ·subst c22
       have H1 : (some 1) = some r := by rw [if_pos rfl] at H; exact H
       clear H
       have H := H1
       clear H1
       obtain rfl := Option.some.inj H
       go_wp2
       go_ret
       exact ⟨by rfl, HB.out⟩
      ·replace c22 := Bool.eq_false_iff.mpr c22
       subst c22
       have H1 : (if ((rd_T86 l0_0 x14_1).f0) = 2 then (if x14_1 = 0 then (qf.j2 kj10 t322 x14_1 t327 l0_0 (l0_0.length : Int) x14_1 (t327 != 0) l0_0 l0_1 ((rd_T86 l0_0 x14_1).f0) ((rd_T86 l0_0 x14_1).f1) ((rd_T86 l0_0 x14_1).f2) ((rd_T86 l0_0 x14_1).f3) ((rd_T86 l0_0 x14_1).f4)) else (qf.j2 kj10 t322 x14_1 t327 l0_0 (l0_0.length : Int) x14_1 false l0_0 l0_1 ((rd_T86 l0_0 x14_1).f0) ((rd_T86 l0_0 x14_1).f1) ((rd_T86 l0_0 x14_1).f2) ((rd_T86 l0_0 x14_1).f3) ((rd_T86 l0_0 x14_1).f4))) else (qf.j2 kj10 t322 x14_1 t327 l0_0 (l0_0.length : Int) x14_1 false l0_0 l0_1 ((rd_T86 l0_0 x14_1).f0) ((rd_T86 l0_0 x14_1).f1) ((rd_T86 l0_0 x14_1).f2) ((rd_T86 l0_0 x14_1).f3) ((rd_T86 l0_0 x14_1).f4))) = some r := by rw [if_neg (show ¬ (false = true) by decide)] at H; exact H
       clear H
       have H := H1
       clear H1
       have HC23 := Am H
       clear H
       go_upto_region 8 with (fail)
       go_cut [24] (fun v24 wc => ∃ (kq : Nat) (x24_22 : Bool), v24 = .bool x24_22 ∧ Aside0 (qf.j2 kq t322 x14_1 t327 l0_0 (l0_0.length : Int) x14_1 x24_22 l0_0 l0_1 ((rd_T86 l0_0 x14_1).f0) ((rd_T86 l0_0 x14_1).f1) ((rd_T86 l0_0 x14_1).f2) ((rd_T86 l0_0 x14_1).f3) ((rd_T86 l0_0 x14_1).f4) = some r) ∧ Aside0 (kq ≤ kj10) ∧ Aside0 (Kd.R (Kd.int .i64) 2 wc w.heap.size (fun _ => True) v323 t322) ∧ Aside0 (wc.heap[gb321]? = some (.cells #[(.slice (some ad325) l0_0.length c0_0), (.slice A0_1 l0_1.length c0_1)] 28 (0, 0))) ∧ Aside0 (wc.heap[gb326]? = some (.cells #[.int .i64 ((rd_T86 l0_0 x14_1).f0), .int .i64 ((rd_T86 l0_0 x14_1).f1), .int .i64 ((rd_T86 l0_0 x14_1).f2), (.slice A325_3 ((rd_T86 l0_0 x14_1).f3).length c325_3), (.slice A325_4 ((rd_T86 l0_0 x14_1).f4).length c325_4)] 86 (0, 0))) ∧ Aside0 (Below w.heap.size w wc))
       case first =>
        have H := HC23.out
        clear HC23
        by_cases c24 : ((rd_T86 l0_0 x14_1).f0) = 2
        ·rw [if_pos c24] at H
         have c24b0 : (((rd_T86 l0_0 x14_1).f0) == 2) = true := beq_iff_eq.mpr c24
         have c24b1 : (((rd_T86 l0_0 x14_1).f0) != 2) = false := bne_eq_false_iff_eq.mpr c24
         clear c24
         by_cases c25 : x14_1 = 0
         ·rw [if_pos c25] at H
          have c25b0 : (x14_1 == 0) = true := beq_iff_eq.mpr c25
          have c25b1 : (x14_1 != 0) = false := bne_eq_false_iff_eq.mpr c25
          clear c25
          have H' := Am H
          clear H
          have hnb26 := NB326_321.out
          have hnc26 := NB321_326.out
          obtain ⟨hcz27_0, hcz27_1, hcz27_2, hcz27_3, hcz27_4, hfz27_0, hfz27_1, hfz27_2, hfz27_3, hfz27_4⟩ := cb5 BK326.out
          go_wp2
          go_meet
          case rel => exact ⟨_, ((t327 != 0)), (by rfl), H', ⟨by have := HK1.out; have := HJ10.out; omega⟩, ⟨by exact HO_3.out⟩, ⟨by exact BK321.out⟩, ⟨by exact BK326.out⟩, ⟨HB.out⟩⟩
         ·rw [if_neg c25] at H
          have c25b0 : (x14_1 == 0) = false := beq_eq_false_iff_ne.mpr c25
          have c25b1 : (x14_1 != 0) = true := bne_iff_ne.mpr c25
          have H' := Am H
          clear H
          have hnb28 := NB326_321.out
          have hnc28 := NB321_326.out
          obtain ⟨hcz29_0, hcz29_1, hcz29_2, hcz29_3, hcz29_4, hfz29_0, hfz29_1, hfz29_2, hfz29_3, hfz29_4⟩ := cb5 BK326.out
          go_wp2
          go_meet
          case rel => exact ⟨_, (false), (by rfl), H', ⟨by have := HK1.out; have := HJ10.out; omega⟩, ⟨by exact HO_3.out⟩, ⟨by exact BK321.out⟩, ⟨by exact BK326.out⟩, ⟨HB.out⟩⟩
        ·rw [if_neg c24] at H
         have c24b0 : (((rd_T86 l0_0 x14_1).f0) == 2) = false := beq_eq_false_iff_ne.mpr c24
         have c24b1 : (((rd_T86 l0_0 x14_1).f0) != 2) = true := bne_iff_ne.mpr c24
         have H' := Am H
         clear H
         have hnb30 := NB326_321.out
         have hnc30 := NB321_326.out
         obtain ⟨hcz31_0, hcz31_1, hcz31_2, hcz31_3, hcz31_4, hfz31_0, hfz31_1, hfz31_2, hfz31_3, hfz31_4⟩ := cb5 BK326.out
         go_wp2
         go_meet
         case rel => exact ⟨_, (false), (by rfl), H', ⟨by have := HK1.out; have := HJ10.out; omega⟩, ⟨by exact HO_3.out⟩, ⟨by exact BK321.out⟩, ⟨by exact BK326.out⟩, ⟨HB.out⟩⟩
       case rest =>
        clear HC23
        obtain ⟨kq, x24_22, rfl, HA, HJ22, HO_3, BK321, BK326, HB⟩ := hcut
        cases kq with
        | zero => exact absurd HA.out (by simp [qf.j2])
        | succ kj22 =>
         have H := HA.out
         clear HA
         simp only [qf.j2] at H
         by_cases c32 : x24_22 = true
         ·subst c32
          have H1 : (some 1) = some r := by rw [if_pos rfl] at H; exact H
          clear H
          have H := H1
          clear H1
          obtain rfl := Option.some.inj H
          go_wp2
          go_ret
          exact ⟨by rfl, HB.out⟩
         ·replace c32 := Bool.eq_false_iff.mpr c32
          subst c32
          have H1 : (if ((rd_T86 l0_0 x14_1).f0) = 2 then (if x14_1 > 0 then (qf.j3 kj22 t322 x14_1 l0_0 (l0_0.length : Int) x14_1 (t327 != 1) l0_0 l0_1 ((rd_T86 l0_0 x14_1).f0) ((rd_T86 l0_0 x14_1).f1) ((rd_T86 l0_0 x14_1).f2) ((rd_T86 l0_0 x14_1).f3) ((rd_T86 l0_0 x14_1).f4)) else (qf.j3 kj22 t322 x14_1 l0_0 (l0_0.length : Int) x14_1 false l0_0 l0_1 ((rd_T86 l0_0 x14_1).f0) ((rd_T86 l0_0 x14_1).f1) ((rd_T86 l0_0 x14_1).f2) ((rd_T86 l0_0 x14_1).f3) ((rd_T86 l0_0 x14_1).f4))) else (qf.j3 kj22 t322 x14_1 l0_0 (l0_0.length : Int) x14_1 false l0_0 l0_1 ((rd_T86 l0_0 x14_1).f0) ((rd_T86 l0_0 x14_1).f1) ((rd_T86 l0_0 x14_1).f2) ((rd_T86 l0_0 x14_1).f3) ((rd_T86 l0_0 x14_1).f4))) = some r := by rw [if_neg (show ¬ (false = true) by decide)] at H; exact H
          clear H
          have H := H1
          clear H1
          have HC33 := Am H
          clear H
          go_upto_region 9 with (fail)
          go_cut [24] (fun v24 wc => ∃ (kq : Nat) (x24_32 : Bool), v24 = .bool x24_32 ∧ Aside0 (qf.j3 kq t322 x14_1 l0_0 (l0_0.length : Int) x14_1 x24_32 l0_0 l0_1 ((rd_T86 l0_0 x14_1).f0) ((rd_T86 l0_0 x14_1).f1) ((rd_T86 l0_0 x14_1).f2) ((rd_T86 l0_0 x14_1).f3) ((rd_T86 l0_0 x14_1).f4) = some r) ∧ Aside0 (kq ≤ kj22) ∧ Aside0 (Kd.R (Kd.int .i64) 2 wc w.heap.size (fun _ => True) v323 t322) ∧ Aside0 (wc.heap[gb321]? = some (.cells #[(.slice (some ad325) l0_0.length c0_0), (.slice A0_1 l0_1.length c0_1)] 28 (0, 0))) ∧ Aside0 (wc.heap[gb326]? = some (.cells #[.int .i64 ((rd_T86 l0_0 x14_1).f0), .int .i64 ((rd_T86 l0_0 x14_1).f1), .int .i64 ((rd_T86 l0_0 x14_1).f2), (.slice A325_3 ((rd_T86 l0_0 x14_1).f3).length c325_3), (.slice A325_4 ((rd_T86 l0_0 x14_1).f4).length c325_4)] 86 (0, 0))) ∧ Aside0 (Below w.heap.size w wc))
          case first =>
           have H := HC33.out
           clear HC33
           by_cases c34 : ((rd_T86 l0_0 x14_1).f0) = 2
           ·rw [if_pos c34] at H
            have c34b0 : (((rd_T86 l0_0 x14_1).f0) == 2) = true := beq_iff_eq.mpr c34
            have c34b1 : (((rd_T86 l0_0 x14_1).f0) != 2) = false := bne_eq_false_iff_eq.mpr c34
            clear c34
            by_cases c35 : x14_1 > 0
            ·rw [if_pos c35] at H
             have c35b0 : decide (0 < x14_1) = true := decide_eq_true c35
             clear c35
             have H' := Am H
             clear H
             have hnb36 := NB326_321.out
             have hnc36 := NB321_326.out
             obtain ⟨hcz37_0, hcz37_1, hcz37_2, hcz37_3, hcz37_4, hfz37_0, hfz37_1, hfz37_2, hfz37_3, hfz37_4⟩ := cb5 BK326.out
             go_wp2
             go_meet
             case rel => exact ⟨_, ((t327 != 1)), (by rfl), H', ⟨by have := HK1.out; have := HJ10.out; have := HJ22.out; omega⟩, ⟨by exact HO_3.out⟩, ⟨by exact BK321.out⟩, ⟨by exact BK326.out⟩, ⟨HB.out⟩⟩
            ·rw [if_neg c35] at H
             have c35b0 : decide (0 < x14_1) = false := decide_eq_false c35
             clear c35
             have H' := Am H
             clear H
             have hnb38 := NB326_321.out
             have hnc38 := NB321_326.out
             obtain ⟨hcz39_0, hcz39_1, hcz39_2, hcz39_3, hcz39_4, hfz39_0, hfz39_1, hfz39_2, hfz39_3, hfz39_4⟩ := cb5 BK326.out
             go_wp2
             go_meet
             case rel => exact ⟨_, (false), (by rfl), H', ⟨by have := HK1.out; have := HJ10.out; have := HJ22.out; omega⟩, ⟨by exact HO_3.out⟩, ⟨by exact BK321.out⟩, ⟨by exact BK326.out⟩, ⟨HB.out⟩⟩
           ·rw [if_neg c34] at H
            have c34b0 : (((rd_T86 l0_0 x14_1).f0) == 2) = false := beq_eq_false_iff_ne.mpr c34
            have c34b1 : (((rd_T86 l0_0 x14_1).f0) != 2) = true := bne_iff_ne.mpr c34
            have H' := Am H
            clear H
            have hnb40 := NB326_321.out
            have hnc40 := NB321_326.out
            obtain ⟨hcz41_0, hcz41_1, hcz41_2, hcz41_3, hcz41_4, hfz41_0, hfz41_1, hfz41_2, hfz41_3, hfz41_4⟩ := cb5 BK326.out
            go_wp2
            go_meet
            case rel => exact ⟨_, (false), (by rfl), H', ⟨by have := HK1.out; have := HJ10.out; have := HJ22.out; omega⟩, ⟨by exact HO_3.out⟩, ⟨by exact BK321.out⟩, ⟨by exact BK326.out⟩, ⟨HB.out⟩⟩
          case rest =>
           clear HC33
           obtain ⟨kq, x24_32, rfl, HA, HJ32, HO_3, BK321, BK326, HB⟩ := hcut
           cases kq with
           | zero => exact absurd HA.out (by simp [qf.j3])
           | succ kj32 =>
            have H := HA.out
            clear HA
            simp only [qf.j3] at H
            by_cases c42 : x24_32 = true
            ·subst c42
             have H1 : (some 1) = some r := by rw [if_pos rfl] at H; exact H
             clear H
             have H := H1
             clear H1
             obtain rfl := Option.some.inj H
             go_wp2
             go_ret
             exact ⟨by rfl, HB.out⟩
            ·replace c42 := Bool.eq_false_iff.mpr c42
             subst c42
             have H1 : (if ((rd_T86 l0_0 x14_1).f0) = 0 then (qf.l0 kj32 t322 l0_0 (l0_0.length : Int) (wrap64 (x14_1 + 1)) l0_0 l0_1) else ((q1l.f kj32 t322 x14_1).bind fun t328 => (if t328 = true then (qf.l0 kj32 t322 l0_0 (l0_0.length : Int) (wrap64 (x14_1 + 1)) l0_0 l0_1) else (some 1)))) = some r := by rw [if_neg (show ¬ (false = true) by decide)] at H; exact H
             clear H
             have H := H1
             clear H1
             by_cases c43 : ((rd_T86 l0_0 x14_1).f0) = 0
             ·rw [if_pos c43] at H
              have c43b0 : (((rd_T86 l0_0 x14_1).f0) == 0) = true := beq_iff_eq.mpr c43
              have c43b1 : (((rd_T86 l0_0 x14_1).f0) != 0) = false := bne_eq_false_iff_eq.mpr c43
              clear c43
              have H' := Am H
              clear H
              have hnb44 := NB326_321.out
              have hnc44 := NB321_326.out
              obtain ⟨hcz45_0, hcz45_1, hcz45_2, hcz45_3, hcz45_4, hfz45_0, hfz45_1, hfz45_2, hfz45_3, hfz45_4⟩ := cb5 BK326.out
              go_wp2
              go_roundg kj32
              case measure => have := HK1.out; have := HJ10.out; have := HJ22.out; have := HJ32.out; omega
              case rel => exact ⟨(wrap64 (x14_1 + 1)), (by rfl), H', ⟨by have := HK1.out; have := HJ10.out; have := HJ22.out; have := HJ32.out; omega⟩, ⟨by exact HO_3.out⟩, ⟨by exact BK321.out⟩, ⟨HB.out⟩⟩
             ·rw [if_neg c43] at H
              have c43b0 : (((rd_T86 l0_0 x14_1).f0) == 0) = false := beq_eq_false_iff_ne.mpr c43
              have c43b1 : (((rd_T86 l0_0 x14_1).f0) != 0) = true := bne_iff_ne.mpr c43
              replace H := zbs H
              obtain ⟨t328, A46, H⟩ := H
              by_cases c47 : t328 = true
              ·subst c47
               have H1 : (qf.l0 kj32 t322 l0_0 (l0_0.length : Int) (wrap64 (x14_1 + 1)) l0_0 l0_1) = some r := by rw [if_pos rfl] at H; exact H
               clear H
               have H := H1
               clear H1
               have H' := Am H
               clear H
               have hnb48 := NB326_321.out
               have hnc48 := NB321_326.out
               obtain ⟨hcz49_0, hcz49_1, hcz49_2, hcz49_3, hcz49_4, hfz49_0, hfz49_1, hfz49_2, hfz49_3, hfz49_4⟩ := cb5 BK326.out
               obtain ⟨Ao50, co50, eo50⟩ := Kd.R_slice HO_3.out
               subst eo50
               go_wp2_with ((go_at_call 70; (with_reducible refine (q1l.calls kj32 _ _ t322 x14_1 true _ ?side1 ?side2 A46.out).mono ?_); (case side1 => repeat (exact (Kd.R_reads' HO_3.out).2.2)); (case side2 => exact (Kd.R_reads' HO_3.out).2.1); rintro e w' ⟨rfl, ⟨nd, rfl⟩⟩))
               go_roundg kj32
               case measure => have := HK1.out; have := HJ10.out; have := HJ22.out; have := HJ32.out; omega
               case rel => exact ⟨(wrap64 (x14_1 + 1)), (by rfl), H', ⟨by have := HK1.out; have := HJ10.out; have := HJ22.out; have := HJ32.out; omega⟩, ⟨by (with_reducible repeat (apply Kd.R_drewN)); exact HO_3.out⟩, ⟨by (with_reducible repeat (refine blk_drewN ?_ _)); exact BK321.out⟩, ⟨by repeat ((with_reducible first | exact HB.out | apply pw_below_drewN))⟩⟩
              ·replace c47 := Bool.eq_false_iff.mpr c47
               subst c47
               have H1 : (some 1) = some r := by rw [if_neg (show ¬ (false = true) by decide)] at H; exact H
               clear H
               have H := H1
               clear H1
               obtain rfl := Option.some.inj H
               have hnb51 := NB326_321.out
               have hnc51 := NB321_326.out
               obtain ⟨hcz52_0, hcz52_1, hcz52_2, hcz52_3, hcz52_4, hfz52_0, hfz52_1, hfz52_2, hfz52_3, hfz52_4⟩ := cb5 BK326.out
               obtain ⟨Ao53, co53, eo53⟩ := Kd.R_slice HO_3.out
               subst eo53
               go_wp2_with ((go_at_call 70; (with_reducible refine (q1l.calls kj32 _ _ t322 x14_1 false _ ?side1 ?side2 A46.out).mono ?_); (case side1 => repeat (exact (Kd.R_reads' HO_3.out).2.2)); (case side2 => exact (Kd.R_reads' HO_3.out).2.1); rintro e w' ⟨rfl, ⟨nd, rfl⟩⟩))
               go_ret
               exact ⟨by rfl, by repeat ((with_reducible first | exact HB.out | apply pw_below_drewN))⟩
   ·rw [if_neg c7] at H
    have c7b0 : decide (x14_1 < (l0_0.length : Int)) = false := decide_eq_false c7
    clear c7
    obtain rfl := Option.some.inj H
    go_wp2
    go_ret
    exact ⟨by rfl, HB.out⟩
end Go.Proofs.YtafhjhdohclchaaGreatDoor.G
namespace Go.Proofs.YtafhjhdohclchaaGreatDoor.G
open Go.RowKit Go.Proofs.YtafhjhdohclchaaGreatDoorW.PrintWords Go.Proofs.YtafhjhdohclchaaGreatDoorW.PrintLast Go.Proofs.YtafhjhdohclchaaGreatDoorW.PrintMore
attribute [local go_sem] min2_int min_two
attribute [local go_sem high] str_leq
attribute [local go_sem] binOp_string_geq
def q4.f (l0 : List (S86)) : Option (Int) := some (l0.length : Int)
set_option maxHeartbeats 8000000 in
set_option maxRecDepth 100000 in
theorem q4.calls (A0 : Option Addr) (c0 : Nat) (l0 : List (S86)) (r : Int) (w : World) (hr0 : Kd.C k86 w A0 l0.length l0) (hc0 : l0.length ≤ c0) (h : q4.f l0 = some r) :
  Calls Tryz.prog 132 #[.slice A0 l0.length c0] w fun e w' => e = .returned (.int .i64 r) ∧ Drawn0 w w' := by
 have HR0 := Am hr0
 have HC0 := Am hc0
 clear hr0 hc0
 have H : (some (l0.length : Int)) = some r := h
 clear h
 obtain rfl := Option.some.inj H
 go_enter Tryz.func132, Tryz.ntmps132
 go_wp2
 go_ret
 exact ⟨by rfl, by repeat (exact Drawn0.refl _)⟩
def qd.l0 : Nat → List (S86) → Int → Int → Option (Int)
 | 0, _, _, _ => none
 | k + 1, x9, x10, x11 => if x11 < x10 then (if 0 ≤ x11 then (if x11 < (x9.length : Int) then ((qc.f k ((rd_T86 x9 x11).f0) ((rd_T86 x9 x11).f1) ((rd_T86 x9 x11).f2) ((rd_T86 x9 x11).f3) ((rd_T86 x9 x11).f4)).bind fun t273 => (if t273 = 0 then (qd.l0 k x9 x10 (wrap64 (x11 + 1))) else (some t273))) else (none)) else (none)) else (some 0)
def qd.f (k : Nat) (l0 : List (S86)) : Option (Int) := if (l0.length : Int) > 10 then (some 2) else (qd.l0 k l0 (l0.length : Int) 0)
theorem qd.mono_l : ∀ k, (∀ y0 y1 y2, LeO (qd.l0 k y0 y1 y2) (qd.l0 (k + 1) y0 y1 y2))
 | 0 => fun _ _ _ r h => by simp [qd.l0] at h
 | k + 1 => by
  have ih0 := qd.mono_l k
  ·intro y0 y1 y2
   unfold qd.l0
   repeat' first | (with_reducible exact ih0 _ _ _) | (with_reducible exact qc.mono _ _ _ _ _ _) | (with_reducible exact LeO.refl _) | (with_reducible refine LeO.ite ?_ ?_) | (with_reducible refine LeO.bind ?_ (fun _ => ?_))
theorem qd.mono : ∀ a0 k, LeO (qd.f k a0) (qd.f (k + 1) a0) := by
 intro a0 k
 have ih0 := qd.mono_l k
 unfold qd.f
 repeat' first | (with_reducible exact ih0 _ _ _) | (with_reducible exact LeO.refl _) | (with_reducible refine LeO.ite ?_ ?_)
set_option maxHeartbeats 8000000 in
set_option maxRecDepth 100000 in
theorem qd.calls (k : Nat) (A0 : Option Addr) (c0 : Nat) (l0 : List (S86)) (r : Int) (w : World) (hr0 : Kd.C k86 w A0 l0.length l0) (hc0 : l0.length ≤ c0) (h : qd.f k l0 = some r) :
  Calls Tryz.prog 226 #[.slice A0 l0.length c0] w fun e w' => e = .returned (.int .i64 r) ∧ Below w.heap.size w w' := by
 have hu86 := Tryz.underlying86
 have HR0 := Am hr0
 have HC0 := Am hc0
 clear hr0 hc0
 have HB := Am (Below.refl w.heap.size w)
 have H : (if (l0.length : Int) > 10 then (some 2) else (qd.l0 k l0 (l0.length : Int) 0)) = some r := h
 clear h
 by_cases c2 : (l0.length : Int) > 10
 ·rw [if_pos c2] at H
  have c2b0 : decide (10 < (l0.length : Int)) = true := decide_eq_true c2
  have c2b1 : decide (10 < l0.length) = true := decide_eq_true (by omega)
  clear c2
  obtain rfl := Option.some.inj H
  go_enter Tryz.func226, Tryz.ntmps226
  go_wp2
  go_ret
  exact ⟨by rfl, HB.out⟩
 ·rw [if_neg c2] at H
  have c2b0 : decide (10 < (l0.length : Int)) = false := decide_eq_false c2
  have c2b1 : decide (10 < l0.length) = false := decide_eq_false (by omega)
  clear c2
  have H' := Am H
  clear H
  go_enter Tryz.func226, Tryz.ntmps226
  go_wp2
  go_loopg [11] k (fun kq v11 w' => ∃ (x11_1 : Int), v11 = .int .i64 x11_1 ∧ Aside0 (qd.l0 kq l0 (l0.length : Int) x11_1 = some r) ∧ Aside0 (kq ≤ k) ∧ Aside0 (Below w.heap.size w w'))
  case atStart => exact ⟨(0), (by rfl), H', ⟨Nat.le_refl _⟩, ⟨HB.out⟩⟩
  case round =>
   clear H'
   try clear c2b0
   try clear c2b1
   obtain ⟨x11_1, rfl, HA, HK1, HB⟩ := hrel
   cases gk with
   | zero => exact absurd HA.out (by simp [qd.l0])
   | succ k1 =>
    have H := HA.out
    clear HA
    simp only [qd.l0] at H
    by_cases c3 : x11_1 < (l0.length : Int)
    ·rw [if_pos c3] at H
     have c3b0 : decide (x11_1 < (l0.length : Int)) = true := decide_eq_true c3
     clear c3
     replace H := ino H
     obtain ⟨c4, H⟩ := H
     have c4b0 : decide (0 ≤ x11_1) = true := decide_eq_true c4
     clear c4
     replace H := ino H
     obtain ⟨c5, H⟩ := H
     have c5b0 : decide (x11_1 < (l0.length : Int)) = true := decide_eq_true c5
     clear c5
     replace H := zbs H
     obtain ⟨t273, A6, H⟩ := H
     by_cases c7 : t273 = 0
     ·rw [if_pos c7] at H
      have c7b0 : (t273 == 0) = true := beq_iff_eq.mpr c7
      have c7b1 : (t273 != 0) = false := bne_eq_false_iff_eq.mpr c7
      clear c7
      have H' := Am H
      clear H
      have p271 : 0 ≤ (x11_1 : Int) := od (by assumption)
      have q271 : x11_1 < (l0.length : Int) := od (by assumption)
      obtain ⟨ad271, A271_3, c271_3, A271_4, c271_4, e271, hx271_0, hx271_1, hx271_2, hx271_3, hx271_4, hl271_3, hi271_3, hl271_4, hi271_4⟩ := at_T86 HR0.out x11_1 p271 q271
      cases e271
      replace hx271_0 := pcb HB.out hx271_0
      replace hx271_1 := pcb HB.out hx271_1
      replace hx271_2 := pcb HB.out hx271_2
      replace hx271_3 := pcb HB.out hx271_3
      replace hx271_4 := pcb HB.out hx271_4
      have HR271_3 := Am hi271_3
      have HC271_3 := Am hl271_3
      clear hi271_3 hl271_3
      have HR271_4 := Am hi271_4
      have HC271_4 := Am hl271_4
      clear hi271_4 hl271_4
      replace p271 := eq_true p271
      replace q271 := eq_true q271
      go_wp2_with (first | ((with_reducible refine gate_dst (N := 4) rfl ?_); refine box_event ?hg (N := 4) ?hd (cs := #[.int .i64 0, .int .i64 0, .int .i64 0, .slice none 0 0, .slice none 0 0]) (t := 86) ?hr ?_; (case hd => rfl); (case hg => rfl); (case hr => (go_simp; done)); intro gb272 hg w8 hbox hb; have BK272 := Am hbox; have GW272 := Am ((nge hg HB.out)); have GE272 := Am ((nge hg HB.out)); replace HB := Am (below_step HB.out hb); clear hb hbox hg; obtain ⟨hcz9_0, hcz9_1, hcz9_2, hcz9_3, hcz9_4, hfz9_0, hfz9_1, hfz9_2, hfz9_3, hfz9_4⟩ := cb5 BK272.out) | ((with_reducible refine gate_callee (f := 217) rfl ?_); refine goesL_ (some 16) rfl rfl Tryz.func217 (by kernel_rfl) rfl #[.agg #[.int .i64 ((rd_T86 l0 x11_1).f0), .int .i64 ((rd_T86 l0 x11_1).f1), .int .i64 ((rd_T86 l0 x11_1).f2), .slice A271_3 ((rd_T86 l0 x11_1).f3).length c271_3, .slice A271_4 ((rd_T86 l0 x11_1).f4).length c271_4]] rfl (by (try simp only [List.map_toArray, List.map_cons, List.map_nil]); rfl) ?_; (with_reducible refine (qc.calls k1 ((rd_T86 l0 x11_1).f0) ((rd_T86 l0 x11_1).f1) ((rd_T86 l0 x11_1).f2) _ _ ((rd_T86 l0 x11_1).f3) _ _ ((rd_T86 l0 x11_1).f4) t273 _ ?side1 ?side2 ?side3 ?side4 A6.out).mono ?_); (case side1 => exact Kd.C_below HR271_3.out (by repeat ((with_reducible first | exact HB.out | refine below_set ?_ GE272.out)))); (case side2 => exact HC271_3.out); (case side3 => exact Kd.C_below HR271_4.out (by repeat ((with_reducible first | exact HB.out | refine below_set ?_ GE272.out)))); (case side4 => exact HC271_4.out); rintro e w10 ⟨rfl, hb⟩; refine ⟨_, rfl, ?_⟩; replace BK272 := Am (blk_below (g := gb272) (o := .cells #[.int .i64 ((rd_T86 l0 x11_1).f0), .int .i64 ((rd_T86 l0 x11_1).f1), .int .i64 ((rd_T86 l0 x11_1).f2), .slice A271_3 ((rd_T86 l0 x11_1).f3).length c271_3, .slice A271_4 ((rd_T86 l0 x11_1).f4).length c271_4] 86 (0, 0)) (by refine blk_put (cs := #[.int .i64 ((rd_T86 l0 x11_1).f0), .int .i64 ((rd_T86 l0 x11_1).f1), .int .i64 ((rd_T86 l0 x11_1).f2), .slice A271_3 ((rd_T86 l0 x11_1).f3).length c271_3, .slice none 0 0]) ?_ 4 _ rfl; refine blk_put (cs := #[.int .i64 ((rd_T86 l0 x11_1).f0), .int .i64 ((rd_T86 l0 x11_1).f1), .int .i64 ((rd_T86 l0 x11_1).f2), .slice none 0 0, .slice none 0 0]) ?_ 3 _ rfl; refine blk_put (cs := #[.int .i64 ((rd_T86 l0 x11_1).f0), .int .i64 ((rd_T86 l0 x11_1).f1), .int .i64 0, .slice none 0 0, .slice none 0 0]) ?_ 2 _ rfl; refine blk_put (cs := #[.int .i64 ((rd_T86 l0 x11_1).f0), .int .i64 0, .int .i64 0, .slice none 0 0, .slice none 0 0]) ?_ 1 _ rfl; refine blk_put (cs := #[.int .i64 0, .int .i64 0, .int .i64 0, .slice none 0 0, .slice none 0 0]) ?_ 0 _ rfl; exact BK272.out) hb); replace HB := Am (below_step (by repeat ((with_reducible first | exact HB.out | refine below_set ?_ GE272.out))) hb); (try clear hb)))
      go_roundg k1
      case measure => have := HK1.out; omega
      case rel => exact ⟨(wrap64 (x11_1 + 1)), (by rfl), H', ⟨by have := HK1.out; omega⟩, ⟨HB.out⟩⟩
     ·rw [if_neg c7] at H
      have c7b0 : (t273 == 0) = false := beq_eq_false_iff_ne.mpr c7
      have c7b1 : (t273 != 0) = true := bne_iff_ne.mpr c7
      obtain rfl := Option.some.inj H
      have p271 : 0 ≤ (x11_1 : Int) := od (by assumption)
      have q271 : x11_1 < (l0.length : Int) := od (by assumption)
      obtain ⟨ad271, A271_3, c271_3, A271_4, c271_4, e271, hx271_0, hx271_1, hx271_2, hx271_3, hx271_4, hl271_3, hi271_3, hl271_4, hi271_4⟩ := at_T86 HR0.out x11_1 p271 q271
      cases e271
      replace hx271_0 := pcb HB.out hx271_0
      replace hx271_1 := pcb HB.out hx271_1
      replace hx271_2 := pcb HB.out hx271_2
      replace hx271_3 := pcb HB.out hx271_3
      replace hx271_4 := pcb HB.out hx271_4
      have HR271_3 := Am hi271_3
      have HC271_3 := Am hl271_3
      clear hi271_3 hl271_3
      have HR271_4 := Am hi271_4
      have HC271_4 := Am hl271_4
      clear hi271_4 hl271_4
      replace p271 := eq_true p271
      replace q271 := eq_true q271
      go_wp2_with (first | ((with_reducible refine gate_dst (N := 4) rfl ?_); refine box_event ?hg (N := 4) ?hd (cs := #[.int .i64 0, .int .i64 0, .int .i64 0, .slice none 0 0, .slice none 0 0]) (t := 86) ?hr ?_; (case hd => rfl); (case hg => rfl); (case hr => (go_simp; done)); intro gb272 hg w11 hbox hb; have BK272 := Am hbox; have GW272 := Am ((nge hg HB.out)); have GE272 := Am ((nge hg HB.out)); replace HB := Am (below_step HB.out hb); clear hb hbox hg; obtain ⟨hcz12_0, hcz12_1, hcz12_2, hcz12_3, hcz12_4, hfz12_0, hfz12_1, hfz12_2, hfz12_3, hfz12_4⟩ := cb5 BK272.out) | ((with_reducible refine gate_callee (f := 217) rfl ?_); refine goesL_ (some 16) rfl rfl Tryz.func217 (by kernel_rfl) rfl #[.agg #[.int .i64 ((rd_T86 l0 x11_1).f0), .int .i64 ((rd_T86 l0 x11_1).f1), .int .i64 ((rd_T86 l0 x11_1).f2), .slice A271_3 ((rd_T86 l0 x11_1).f3).length c271_3, .slice A271_4 ((rd_T86 l0 x11_1).f4).length c271_4]] rfl (by (try simp only [List.map_toArray, List.map_cons, List.map_nil]); rfl) ?_; (with_reducible refine (qc.calls k1 ((rd_T86 l0 x11_1).f0) ((rd_T86 l0 x11_1).f1) ((rd_T86 l0 x11_1).f2) _ _ ((rd_T86 l0 x11_1).f3) _ _ ((rd_T86 l0 x11_1).f4) t273 _ ?side1 ?side2 ?side3 ?side4 A6.out).mono ?_); (case side1 => exact Kd.C_below HR271_3.out (by repeat ((with_reducible first | exact HB.out | refine below_set ?_ GE272.out)))); (case side2 => exact HC271_3.out); (case side3 => exact Kd.C_below HR271_4.out (by repeat ((with_reducible first | exact HB.out | refine below_set ?_ GE272.out)))); (case side4 => exact HC271_4.out); rintro e w13 ⟨rfl, hb⟩; refine ⟨_, rfl, ?_⟩; replace BK272 := Am (blk_below (g := gb272) (o := .cells #[.int .i64 ((rd_T86 l0 x11_1).f0), .int .i64 ((rd_T86 l0 x11_1).f1), .int .i64 ((rd_T86 l0 x11_1).f2), .slice A271_3 ((rd_T86 l0 x11_1).f3).length c271_3, .slice A271_4 ((rd_T86 l0 x11_1).f4).length c271_4] 86 (0, 0)) (by refine blk_put (cs := #[.int .i64 ((rd_T86 l0 x11_1).f0), .int .i64 ((rd_T86 l0 x11_1).f1), .int .i64 ((rd_T86 l0 x11_1).f2), .slice A271_3 ((rd_T86 l0 x11_1).f3).length c271_3, .slice none 0 0]) ?_ 4 _ rfl; refine blk_put (cs := #[.int .i64 ((rd_T86 l0 x11_1).f0), .int .i64 ((rd_T86 l0 x11_1).f1), .int .i64 ((rd_T86 l0 x11_1).f2), .slice none 0 0, .slice none 0 0]) ?_ 3 _ rfl; refine blk_put (cs := #[.int .i64 ((rd_T86 l0 x11_1).f0), .int .i64 ((rd_T86 l0 x11_1).f1), .int .i64 0, .slice none 0 0, .slice none 0 0]) ?_ 2 _ rfl; refine blk_put (cs := #[.int .i64 ((rd_T86 l0 x11_1).f0), .int .i64 0, .int .i64 0, .slice none 0 0, .slice none 0 0]) ?_ 1 _ rfl; refine blk_put (cs := #[.int .i64 0, .int .i64 0, .int .i64 0, .slice none 0 0, .slice none 0 0]) ?_ 0 _ rfl; exact BK272.out) hb); replace HB := Am (below_step (by repeat ((with_reducible first | exact HB.out | refine below_set ?_ GE272.out))) hb); (try clear hb)))
      go_ret
      exact ⟨by rfl, HB.out⟩
    ·rw [if_neg c3] at H
     have c3b0 : decide (x11_1 < (l0.length : Int)) = false := decide_eq_false c3
     clear c3
     obtain rfl := Option.some.inj H
     go_wp2
     go_ret
     exact ⟨by rfl, HB.out⟩
def qk.f (k : Nat) (l0_0 : List (S86)) (l0_1 : List (List Int)) : Option (Int) := (qd.f k l0_0).bind fun t275 => (if t275 = 0 then (if (l0_0.length : Int) = 0 then (some 1) else (if 0 < (l0_0.length : Int) then (if ((rd_T86 l0_0 0).f0) = 2 then (if (l0_1.length : Int) = 20 then (some 0) else (some 1)) else (some 1)) else (none))) else (some t275))
theorem qk.mono : ∀ a0 a1 k, LeO (qk.f k a0 a1) (qk.f (k + 1) a0 a1) := by
 intro a0 a1 k
 unfold qk.f
 repeat' first | (with_reducible exact qd.mono _ _) | (with_reducible exact LeO.refl _) | (with_reducible refine LeO.bind ?_ (fun _ => ?_))
set_option maxHeartbeats 8000000 in
set_option maxRecDepth 100000 in
theorem qk.calls (k : Nat) (A0_0 : Option Addr) (c0_0 : Nat) (l0_0 : List (S86)) (A0_1 : Option Addr) (c0_1 : Nat) (l0_1 : List (List Int)) (r : Int) (w : World) (hr0_0 : Kd.C k86 w A0_0 l0_0.length l0_0) (hc0_0 : l0_0.length ≤ c0_0) (hr0_1 : Kd.C (Kd.slice 5 (Kd.int .u8)) w A0_1 l0_1.length l0_1) (hc0_1 : l0_1.length ≤ c0_1) (h : qk.f k l0_0 l0_1 = some r) :
  Calls Tryz.prog 172 #[.agg #[.slice A0_0 l0_0.length c0_0, .slice A0_1 l0_1.length c0_1]] w fun e w' => e = .returned (.int .i64 r) ∧ Below w.heap.size w w' := by
 have hu28 := Tryz.underlying28
 have HR0_0 := Am hr0_0
 have HC0_0 := Am hc0_0
 clear hr0_0 hc0_0
 have HR0_1 := Am hr0_1
 have HC0_1 := Am hc0_1
 clear hr0_1 hc0_1
 have HB := Am (Below.refl w.heap.size w)
 have H : ((qd.f k l0_0).bind fun t275 => (if t275 = 0 then (if (l0_0.length : Int) = 0 then (some 1) else (if 0 < (l0_0.length : Int) then (if ((rd_T86 l0_0 0).f0) = 2 then (if (l0_1.length : Int) = 20 then (some 0) else (some 1)) else (some 1)) else (none))) else (some t275))) = some r := h
 clear h
 replace H := zbs H
 obtain ⟨t275, A2, H⟩ := H
 by_cases c3 : t275 = 0
 ·rw [if_pos c3] at H
  have c3b0 : (t275 == 0) = true := beq_iff_eq.mpr c3
  have c3b1 : (t275 != 0) = false := bne_eq_false_iff_eq.mpr c3
  clear c3
  by_cases c4 : (l0_0.length : Int) = 0
  ·rw [if_pos c4] at H
   have c4b0 : ((l0_0.length : Int) == 0) = true := beq_iff_eq.mpr c4
   have c4b1 : ((l0_0.length : Int) != 0) = false := bne_eq_false_iff_eq.mpr c4
   clear c4
   obtain rfl := Option.some.inj H
   go_enter Tryz.func172, Tryz.ntmps172
   go_wp2_with (first | ((with_reducible refine gate_dst (N := 1) rfl ?_); (try (refine gate_guard (by rfl) ?_; dsimp only)); refine box_event ?hg (N := 1) ?hd (cs := #[.slice A0_0 l0_0.length c0_0, .slice A0_1 l0_1.length c0_1]) (t := 28) ?hr ?_; (case hd => rfl); (case hg => rfl); (case hr => (go_simp; done)); intro gb274 hg w5 hbox hb; have BK274 := Am hbox; have GW274 := Am ((nge hg HB.out)); have GE274 := Am ((nge hg HB.out)); replace HB := Am (below_step HB.out hb); clear hb hbox hg; obtain ⟨hcz6_0, hcz6_1, hfz6_0, hfz6_1⟩ := cb2 BK274.out) | ((with_reducible refine gate_callee (f := 226) rfl ?_); refine goesL_ (some 6) rfl rfl Tryz.func226 (by kernel_rfl) rfl #[.slice A0_0 l0_0.length c0_0] rfl (by (try simp only [List.map_toArray, List.map_cons, List.map_nil]); rfl) ?_; (with_reducible refine (qd.calls k _ _ l0_0 t275 _ ?side1 ?side2 A2.out).mono ?_); (case side1 => repeat (exact (Kd.C_below HR0_0.out HB.out))); (case side2 => exact HC0_0.out); rintro e w7 ⟨rfl, hb⟩; refine ⟨_, rfl, ?_⟩; replace BK274 := Am (blk_below BK274.out hb); replace HB := Am (below_step HB.out hb); (try clear hb); obtain ⟨hcz8_0, hcz8_1, hfz8_0, hfz8_1⟩ := cb2 BK274.out))
   go_ret
   exact ⟨by rfl, HB.out⟩
  ·rw [if_neg c4] at H
   have c4b0 : ((l0_0.length : Int) == 0) = false := beq_eq_false_iff_ne.mpr c4
   have c4b1 : ((l0_0.length : Int) != 0) = true := bne_iff_ne.mpr c4
   have c4b2 : ¬ (l0_0 = []) := fun h_ => c4 (by rw [h_]; rfl)
   replace H := ino H
   obtain ⟨c9, H⟩ := H
   have c9b0 : decide (0 < (l0_0.length : Int)) = true := decide_eq_true c9
   have c9b1 : decide (0 < l0_0.length) = true := decide_eq_true (by omega)
   clear c9
   by_cases c10 : ((rd_T86 l0_0 0).f0) = 2
   ·rw [if_pos c10] at H
    have c10b0 : (((rd_T86 l0_0 0).f0) == 2) = true := beq_iff_eq.mpr c10
    have c10b1 : (((rd_T86 l0_0 0).f0) != 2) = false := bne_eq_false_iff_eq.mpr c10
    clear c10
    by_cases c11 : (l0_1.length : Int) = 20
    ·rw [if_pos c11] at H
     have c11b0 : ((l0_1.length : Int) == 20) = true := beq_iff_eq.mpr c11
     have c11b1 : ((l0_1.length : Int) != 20) = false := bne_eq_false_iff_eq.mpr c11
     clear c11
     obtain rfl := Option.some.inj H
     go_enter Tryz.func172, Tryz.ntmps172
     go_wp2_with (first | ((with_reducible refine gate_dst (N := 1) rfl ?_); (try (refine gate_guard (by rfl) ?_; dsimp only)); refine box_event ?hg (N := 1) ?hd (cs := #[.slice A0_0 l0_0.length c0_0, .slice A0_1 l0_1.length c0_1]) (t := 28) ?hr ?_; (case hd => rfl); (case hg => rfl); (case hr => (go_simp; done)); intro gb274 hg w12 hbox hb; have BK274 := Am hbox; have GW274 := Am ((nge hg HB.out)); have GE274 := Am ((nge hg HB.out)); replace HB := Am (below_step HB.out hb); clear hb hbox hg; obtain ⟨hcz13_0, hcz13_1, hfz13_0, hfz13_1⟩ := cb2 BK274.out) | ((with_reducible refine gate_callee (f := 226) rfl ?_); refine goesL_ (some 6) rfl rfl Tryz.func226 (by kernel_rfl) rfl #[.slice A0_0 l0_0.length c0_0] rfl (by (try simp only [List.map_toArray, List.map_cons, List.map_nil]); rfl) ?_; (with_reducible refine (qd.calls k _ _ l0_0 t275 _ ?side1 ?side2 A2.out).mono ?_); (case side1 => repeat (exact (Kd.C_below HR0_0.out HB.out))); (case side2 => exact HC0_0.out); rintro e w14 ⟨rfl, hb⟩; refine ⟨_, rfl, ?_⟩; replace BK274 := Am (blk_below BK274.out hb); replace HB := Am (below_step HB.out hb); (try clear hb); obtain ⟨hcz15_0, hcz15_1, hfz15_0, hfz15_1⟩ := cb2 BK274.out; have p276 : 0 ≤ (0 : Int) := (by omega); have q276 : 0 < (l0_0.length : Int) := od (by assumption); obtain ⟨ad276, A276_3, c276_3, A276_4, c276_4, e276, hx276_0, hx276_1, hx276_2, hx276_3, hx276_4, hl276_3, hi276_3, hl276_4, hi276_4⟩ := at_T86 HR0_0.out 0 p276 q276; cases e276; have qi276 : (0 < l0_0.length) = True := eq_true (by omega); (try rw [show ((0 : Int)).toNat = 0 from rfl] at hx276_0); (try rw [show 0 * 5 = 0 from rfl] at hx276_0); (try rw [Addr.add_zero'] at hx276_0); (try rw [show ((0 : Int)).toNat = 0 from rfl] at hx276_1); (try rw [show 0 * 5 = 0 from rfl] at hx276_1); (try rw [Addr.add_zero'] at hx276_1); (try rw [show ((0 : Int)).toNat = 0 from rfl] at hx276_2); (try rw [show 0 * 5 = 0 from rfl] at hx276_2); (try rw [Addr.add_zero'] at hx276_2); (try rw [show ((0 : Int)).toNat = 0 from rfl] at hx276_3); (try rw [show 0 * 5 = 0 from rfl] at hx276_3); (try rw [Addr.add_zero'] at hx276_3); (try rw [show ((0 : Int)).toNat = 0 from rfl] at hx276_4); (try rw [show 0 * 5 = 0 from rfl] at hx276_4); (try rw [Addr.add_zero'] at hx276_4); replace hx276_0 := pcb HB.out hx276_0; replace hx276_1 := pcb HB.out hx276_1; replace hx276_2 := pcb HB.out hx276_2; replace hx276_3 := pcb HB.out hx276_3; replace hx276_4 := pcb HB.out hx276_4; have HR276_3 := Am hi276_3; have HC276_3 := Am hl276_3; clear hi276_3 hl276_3; have HR276_4 := Am hi276_4; have HC276_4 := Am hl276_4; clear hi276_4 hl276_4; replace p276 := eq_true p276; replace q276 := eq_true q276))
     go_ret
     exact ⟨by rfl, HB.out⟩
    ·rw [if_neg c11] at H
     have c11b0 : ((l0_1.length : Int) == 20) = false := beq_eq_false_iff_ne.mpr c11
     have c11b1 : ((l0_1.length : Int) != 20) = true := bne_iff_ne.mpr c11
     obtain rfl := Option.some.inj H
     go_enter Tryz.func172, Tryz.ntmps172
     go_wp2_with (first | ((with_reducible refine gate_dst (N := 1) rfl ?_); (try (refine gate_guard (by rfl) ?_; dsimp only)); refine box_event ?hg (N := 1) ?hd (cs := #[.slice A0_0 l0_0.length c0_0, .slice A0_1 l0_1.length c0_1]) (t := 28) ?hr ?_; (case hd => rfl); (case hg => rfl); (case hr => (go_simp; done)); intro gb274 hg w16 hbox hb; have BK274 := Am hbox; have GW274 := Am ((nge hg HB.out)); have GE274 := Am ((nge hg HB.out)); replace HB := Am (below_step HB.out hb); clear hb hbox hg; obtain ⟨hcz17_0, hcz17_1, hfz17_0, hfz17_1⟩ := cb2 BK274.out) | ((with_reducible refine gate_callee (f := 226) rfl ?_); refine goesL_ (some 6) rfl rfl Tryz.func226 (by kernel_rfl) rfl #[.slice A0_0 l0_0.length c0_0] rfl (by (try simp only [List.map_toArray, List.map_cons, List.map_nil]); rfl) ?_; (with_reducible refine (qd.calls k _ _ l0_0 t275 _ ?side1 ?side2 A2.out).mono ?_); (case side1 => repeat (exact (Kd.C_below HR0_0.out HB.out))); (case side2 => exact HC0_0.out); rintro e w18 ⟨rfl, hb⟩; refine ⟨_, rfl, ?_⟩; replace BK274 := Am (blk_below BK274.out hb); replace HB := Am (below_step HB.out hb); (try clear hb); obtain ⟨hcz19_0, hcz19_1, hfz19_0, hfz19_1⟩ := cb2 BK274.out; have p276 : 0 ≤ (0 : Int) := (by omega); have q276 : 0 < (l0_0.length : Int) := od (by assumption); obtain ⟨ad276, A276_3, c276_3, A276_4, c276_4, e276, hx276_0, hx276_1, hx276_2, hx276_3, hx276_4, hl276_3, hi276_3, hl276_4, hi276_4⟩ := at_T86 HR0_0.out 0 p276 q276; cases e276; have qi276 : (0 < l0_0.length) = True := eq_true (by omega); (try rw [show ((0 : Int)).toNat = 0 from rfl] at hx276_0); (try rw [show 0 * 5 = 0 from rfl] at hx276_0); (try rw [Addr.add_zero'] at hx276_0); (try rw [show ((0 : Int)).toNat = 0 from rfl] at hx276_1); (try rw [show 0 * 5 = 0 from rfl] at hx276_1); (try rw [Addr.add_zero'] at hx276_1); (try rw [show ((0 : Int)).toNat = 0 from rfl] at hx276_2); (try rw [show 0 * 5 = 0 from rfl] at hx276_2); (try rw [Addr.add_zero'] at hx276_2); (try rw [show ((0 : Int)).toNat = 0 from rfl] at hx276_3); (try rw [show 0 * 5 = 0 from rfl] at hx276_3); (try rw [Addr.add_zero'] at hx276_3); (try rw [show ((0 : Int)).toNat = 0 from rfl] at hx276_4); (try rw [show 0 * 5 = 0 from rfl] at hx276_4); (try rw [Addr.add_zero'] at hx276_4); replace hx276_0 := pcb HB.out hx276_0; replace hx276_1 := pcb HB.out hx276_1; replace hx276_2 := pcb HB.out hx276_2; replace hx276_3 := pcb HB.out hx276_3; replace hx276_4 := pcb HB.out hx276_4; have HR276_3 := Am hi276_3; have HC276_3 := Am hl276_3; clear hi276_3 hl276_3; have HR276_4 := Am hi276_4; have HC276_4 := Am hl276_4; clear hi276_4 hl276_4; replace p276 := eq_true p276; replace q276 := eq_true q276))
     go_ret
     exact ⟨by rfl, HB.out⟩
   ·rw [if_neg c10] at H
    have c10b0 : (((rd_T86 l0_0 0).f0) == 2) = false := beq_eq_false_iff_ne.mpr c10
    have c10b1 : (((rd_T86 l0_0 0).f0) != 2) = true := bne_iff_ne.mpr c10
    obtain rfl := Option.some.inj H
    go_enter Tryz.func172, Tryz.ntmps172
    go_wp2_with (first | ((with_reducible refine gate_dst (N := 1) rfl ?_); (try (refine gate_guard (by rfl) ?_; dsimp only)); refine box_event ?hg (N := 1) ?hd (cs := #[.slice A0_0 l0_0.length c0_0, .slice A0_1 l0_1.length c0_1]) (t := 28) ?hr ?_; (case hd => rfl); (case hg => rfl); (case hr => (go_simp; done)); intro gb274 hg w20 hbox hb; have BK274 := Am hbox; have GW274 := Am ((nge hg HB.out)); have GE274 := Am ((nge hg HB.out)); replace HB := Am (below_step HB.out hb); clear hb hbox hg; obtain ⟨hcz21_0, hcz21_1, hfz21_0, hfz21_1⟩ := cb2 BK274.out) | ((with_reducible refine gate_callee (f := 226) rfl ?_); refine goesL_ (some 6) rfl rfl Tryz.func226 (by kernel_rfl) rfl #[.slice A0_0 l0_0.length c0_0] rfl (by (try simp only [List.map_toArray, List.map_cons, List.map_nil]); rfl) ?_; (with_reducible refine (qd.calls k _ _ l0_0 t275 _ ?side1 ?side2 A2.out).mono ?_); (case side1 => repeat (exact (Kd.C_below HR0_0.out HB.out))); (case side2 => exact HC0_0.out); rintro e w22 ⟨rfl, hb⟩; refine ⟨_, rfl, ?_⟩; replace BK274 := Am (blk_below BK274.out hb); replace HB := Am (below_step HB.out hb); (try clear hb); obtain ⟨hcz23_0, hcz23_1, hfz23_0, hfz23_1⟩ := cb2 BK274.out; have p276 : 0 ≤ (0 : Int) := (by omega); have q276 : 0 < (l0_0.length : Int) := od (by assumption); obtain ⟨ad276, A276_3, c276_3, A276_4, c276_4, e276, hx276_0, hx276_1, hx276_2, hx276_3, hx276_4, hl276_3, hi276_3, hl276_4, hi276_4⟩ := at_T86 HR0_0.out 0 p276 q276; cases e276; have qi276 : (0 < l0_0.length) = True := eq_true (by omega); (try rw [show ((0 : Int)).toNat = 0 from rfl] at hx276_0); (try rw [show 0 * 5 = 0 from rfl] at hx276_0); (try rw [Addr.add_zero'] at hx276_0); (try rw [show ((0 : Int)).toNat = 0 from rfl] at hx276_1); (try rw [show 0 * 5 = 0 from rfl] at hx276_1); (try rw [Addr.add_zero'] at hx276_1); (try rw [show ((0 : Int)).toNat = 0 from rfl] at hx276_2); (try rw [show 0 * 5 = 0 from rfl] at hx276_2); (try rw [Addr.add_zero'] at hx276_2); (try rw [show ((0 : Int)).toNat = 0 from rfl] at hx276_3); (try rw [show 0 * 5 = 0 from rfl] at hx276_3); (try rw [Addr.add_zero'] at hx276_3); (try rw [show ((0 : Int)).toNat = 0 from rfl] at hx276_4); (try rw [show 0 * 5 = 0 from rfl] at hx276_4); (try rw [Addr.add_zero'] at hx276_4); replace hx276_0 := pcb HB.out hx276_0; replace hx276_1 := pcb HB.out hx276_1; replace hx276_2 := pcb HB.out hx276_2; replace hx276_3 := pcb HB.out hx276_3; replace hx276_4 := pcb HB.out hx276_4; have HR276_3 := Am hi276_3; have HC276_3 := Am hl276_3; clear hi276_3 hl276_3; have HR276_4 := Am hi276_4; have HC276_4 := Am hl276_4; clear hi276_4 hl276_4; replace p276 := eq_true p276; replace q276 := eq_true q276))
    go_ret
    exact ⟨by rfl, HB.out⟩
 ·rw [if_neg c3] at H
  have c3b0 : (t275 == 0) = false := beq_eq_false_iff_ne.mpr c3
  have c3b1 : (t275 != 0) = true := bne_iff_ne.mpr c3
  obtain rfl := Option.some.inj H
  go_enter Tryz.func172, Tryz.ntmps172
  go_wp2_with (first | ((with_reducible refine gate_dst (N := 1) rfl ?_); (try (refine gate_guard (by rfl) ?_; dsimp only)); refine box_event ?hg (N := 1) ?hd (cs := #[.slice A0_0 l0_0.length c0_0, .slice A0_1 l0_1.length c0_1]) (t := 28) ?hr ?_; (case hd => rfl); (case hg => rfl); (case hr => (go_simp; done)); intro gb274 hg w24 hbox hb; have BK274 := Am hbox; have GW274 := Am ((nge hg HB.out)); have GE274 := Am ((nge hg HB.out)); replace HB := Am (below_step HB.out hb); clear hb hbox hg; obtain ⟨hcz25_0, hcz25_1, hfz25_0, hfz25_1⟩ := cb2 BK274.out) | ((with_reducible refine gate_callee (f := 226) rfl ?_); refine goesL_ (some 6) rfl rfl Tryz.func226 (by kernel_rfl) rfl #[.slice A0_0 l0_0.length c0_0] rfl (by (try simp only [List.map_toArray, List.map_cons, List.map_nil]); rfl) ?_; (with_reducible refine (qd.calls k _ _ l0_0 t275 _ ?side1 ?side2 A2.out).mono ?_); (case side1 => repeat (exact (Kd.C_below HR0_0.out HB.out))); (case side2 => exact HC0_0.out); rintro e w26 ⟨rfl, hb⟩; refine ⟨_, rfl, ?_⟩; replace BK274 := Am (blk_below BK274.out hb); replace HB := Am (below_step HB.out hb); (try clear hb)))
  go_ret
  exact ⟨by rfl, HB.out⟩
end Go.Proofs.YtafhjhdohclchaaGreatDoor.G
namespace Go.Proofs.YtafhjhdohclchaaGreatDoor.G
open Go.RowKit Go.Proofs.YtafhjhdohclchaaGreatDoorW.PrintWords Go.Proofs.YtafhjhdohclchaaGreatDoorW.PrintLast Go.Proofs.YtafhjhdohclchaaGreatDoorW.PrintMore
attribute [local go_sem] min2_int min_two
attribute [local go_sem high] str_leq
attribute [local go_sem] binOp_string_geq
open Go.Sort in
theorem sort_R {w : World} {base g n cap : Nat} {ok : Nat → Prop} {e : TypeId} {os : Array Obj} {ss ts : List Int} (hl : ts.length = ss.length) (hp : 0 < ss.length) (h : Kd.R (Kd.int .i64) e w base ok (.slice (some ⟨g, 0, none⟩) ss.length cap) ss) :
    Kd.R (Kd.int .i64) e (grow (putRow (Value.int .i64) (Sort.ahead w n) g 0 ts.toArray) os) base ok (.slice (some ⟨g, 0, none⟩) ss.length cap) ts := by
  have ho := Kd.own_of_R h
  obtain ⟨_, ⟨h1, _⟩ | ⟨g', cap', cur, e1, hb1, hb2, hc1, hc2, hc3, hc4⟩⟩ := ho
  · cases h1
  · injection e1 with e1 e2 e3
    injection e1 with e1
    injection e1 with e1
    subst e1 e3
    have := ownsRow_sortedI (n := n) (os := os) (base := base) (e := e) hl hb1 hb2 hc1 hc2 hc3
    refine Kd.R_of_own ?_ h.1
    rw [hl]
    exact this
theorem sort_holds {w : World} {base g cap : Nat} {ok : Nat → Prop} {e : TypeId} {ss : List Int} (hp : 0 < ss.length) (h : Kd.R (Kd.int .i64) e w base ok (.slice (some ⟨g, 0, none⟩) ss.length cap) ss) : Go.Sort.Holds (Value.int .i64) w g 0 ss.toArray ∧ g < w.heap.size ∧ base ≤ g ∧ ss.length ≤ cap := by
  have ho := Kd.own_of_R h
  obtain ⟨_, ⟨h1, _⟩ | ⟨g', cap', cur, e1, hb1, hb2, hc1, hc2, hc3, hc4⟩⟩ := ho
  · cases h1
  · injection e1 with e1 e2 e3
    injection e1 with e1
    injection e1 with e1
    subst e1 e3
    refine ⟨holds_of_blockI hb2 ?_, (Array.getElem?_eq_some_iff.1 hb2).1, hb1, hc1⟩
    simpa [encs] using hc4
def slices_Sort_int64_int64.f (l0 : List Int) : Option (List Int) := if l0.length < 4611686018427387904 then some (l0.mergeSort fun x y => decide (x ≤ y)) else none
theorem slices_Sort_int64_int64.calls (P0_ : Nat → Prop) (u9000_ : Value) (l0 : List Int) (r2 : List Int) (w0 w : World) (hB : Below w0.heap.size w0 w) (ho0 : Kd.R (Kd.int .i64) 2 w w0.heap.size P0_ u9000_ l0) (h : slices_Sort_int64_int64.f l0 = some r2) :
    Calls Tryz.prog 190 #[u9000_] w fun e w' => e = .returned (.tuple #[]) ∧ Kd.R (Kd.int .i64) 2 w' w0.heap.size (fun k_ => (P0_ k_ ∨ w.heap.size ≤ k_)) u9000_ r2 ∧ Below w0.heap.size w0 w' ∧ Kept w w' (fun k_ => P0_ k_) := by
  unfold slices_Sort_int64_int64.f at h
  by_cases hlen : l0.length < 4611686018427387904
  case neg => rw [if_neg hlen] at h; cases h
  rw [if_pos hlen] at h
  injection h with h
  subst h
  by_cases hp : 0 < l0.length
  · obtain ⟨g, cap, rfl, hg1, hg2, cl, hg3⟩ := Kd.R_form ho0 hp
    obtain ⟨hH, hb, hbase, hcap⟩ := sort_holds hp ho0
    refine (Tryz.slices_Sort_int g 0 cap l0 w hH hb hlen).mono ?_
    rintro e w' ⟨rfl, n, os, rfl⟩
    have hgr : w.grownBy (Go.Sort.grow (Go.Sort.putRow (Value.int .i64) (Go.Sort.ahead w n) g 0 (l0.mergeSort fun x y => decide (x ≤ y)).toArray) os) (some g) := grownBy_sortedI _
    refine ⟨rfl, Kd.R_mono (sort_R (List.length_mergeSort _) hp ho0) (fun k hk => .inl hk), hB.grown hgr hB.size (fun k hk => by injection hk with hk; omega), Kept.of_grown hgr (Kept.refl w _) (fun k hk => by injection hk with hk; subst hk; exact .inl (ho0.1 _ rfl))⟩
  · have hn : l0 = [] := List.eq_nil_of_length_eq_zero (by omega)
    subst hn
    obtain ⟨A0, c0, rfl, hc0, hr0⟩ := Kd.R_reads ho0
    refine (Tryz.slices_Sort_int_none A0 c0 w).mono ?_
    rintro e w' ⟨rfl, hw⟩
    subst hw
    have e0 : (([] : List Int).mergeSort fun x y => decide (x ≤ y)) = [] := by simp
    rw [e0]
    exact ⟨rfl, Kd.R_mono ho0 (fun k hk => .inl hk), hB, Kept.refl w' _⟩
def slices_Compact_int64_int64.f (l0 : List Int) : Option (List Int) := some (Lib.compact l0)
theorem slices_Compact_int64_int64.calls (P0_ : Nat → Prop) (u9000_ : Value) (l0 : List Int) (r : List Int) (w0 w : World) (hB : Below w0.heap.size w0 w) (ho0 : Kd.R (Kd.int .i64) 2 w w0.heap.size P0_ u9000_ l0) (h : slices_Compact_int64_int64.f l0 = some r) :
    Calls Tryz.prog 191 #[u9000_] w fun e w' => ∃ v0_ : Value, e = .returned (v0_) ∧ Kd.R (Kd.int .i64) 2 w' w0.heap.size (fun k_ => (P0_ k_ ∨ w.heap.size ≤ k_)) v0_ r ∧ Below w0.heap.size w0 w' ∧ Kept w w' (fun k_ => P0_ k_) := by
  injection h with h
  subst h
  obtain ⟨A0, c0, rfl, hc0, hr0⟩ := Kd.R_reads ho0
  have hlm : l0.length ≤ 9223372036854775807 := hr0.2.1
  by_cases hp : 0 < l0.length
  · obtain ⟨g, cap, he, hg1, hg2, cl, hg3⟩ := Kd.R_form ho0 hp
    injection he with he1 he2 he3
    subst he1 he3
    obtain ⟨hH, hb, hbase, hcap⟩ := sort_holds hp ho0
    have hcl := Lib.compact_length_le l0
    refine (Tryz.slices_Compact_int g 0 c0 l0 w hH hlm hc0).mono ?_
    rintro e w' ⟨rfl, q, rfl⟩
    have hgr : w.grownBy (Go.Sort.grow (Go.Sort.putRow (Value.int .i64) (Go.Sort.ahead w q) g 0 (Lib.compact l0 ++ List.replicate (l0.length - (Lib.compact l0).length) 0).toArray) #[]) (some g) := grownBy_sortedI _
    have hR := sort_R (n := q) (os := #[]) (ts := Lib.compact l0 ++ List.replicate (l0.length - (Lib.compact l0).length) 0) (by simp; omega) hp ho0
    rw [Go.Sort.grow_empty] at hgr hR
    have hT := Kd.R_take (m := (Lib.compact l0).length) hR (by simp)
    rw [List.take_left] at hT
    exact ⟨_, rfl, Kd.R_mono hT (fun k hk => .inl hk), hB.grown hgr hB.size (fun k hk => by injection hk with hk; omega), Kept.of_grown hgr (Kept.refl w _) (fun k hk => by injection hk with hk; subst hk; exact .inl (ho0.1 _ rfl))⟩
  · have hn : l0 = [] := List.eq_nil_of_length_eq_zero (by omega)
    subst hn
    refine (Tryz.slices_Compact_int_empty A0 c0 w).mono ?_
    rintro e w' ⟨rfl, hw⟩
    subst hw
    exact ⟨_, rfl, Kd.R_mono ho0 (fun k hk => .inl hk), hB, Kept.refl w' _⟩
end Go.Proofs.YtafhjhdohclchaaGreatDoor.G
namespace Go.Proofs.YtafhjhdohclchaaGreatDoor.G
open Go.RowKit Go.Proofs.YtafhjhdohclchaaGreatDoorW.PrintWords Go.Proofs.YtafhjhdohclchaaGreatDoorW.PrintLast Go.Proofs.YtafhjhdohclchaaGreatDoorW.PrintMore
attribute [local go_sem] min2_int min_two
attribute [local go_sem high] str_leq
attribute [local go_sem] binOp_string_geq
def q1i.f (l0 : List Int) : Option (List Int) := if l0.length < 17592186044416 then some l0 else none
set_option maxHeartbeats 1000000 in
set_option maxRecDepth 100000 in
theorem q1i.calls (A0 : Option Addr) (c0 : Nat) (l0 : List Int) (r : List Int) (w : World) (hr0 : Kd.C (Kd.int .i64) w A0 l0.length l0) (hc0 : l0.length ≤ c0) (h : q1i.f l0 = some r) :
  Calls Tryz.prog 109 #[.slice A0 l0.length c0] w fun e w' => ∃ v0_ : Value, e = .returned (v0_) ∧ Kd.R (Kd.int .i64) 2 w' w.heap.size (fun _ => True) v0_ r ∧ Below w.heap.size w w' := by
 unfold q1i.f at h
 by_cases hl : l0.length < 17592186044416
 case neg => rw [if_neg hl] at h; cases h
 rw [if_pos hl] at h
 injection h with h
 subst h
 have HR0 := Am hr0
 have HC0 := Am hc0
 have HL := Am hl
 clear hc0 hl
 cases A0 with
 | none =>
  have hn : l0 = [] := by
   rcases Nat.eq_zero_or_pos l0.length with h0 | h0
   ·exact List.eq_nil_of_length_eq_zero h0
   ·obtain ⟨ad, e, _⟩ := hr0.2.2 h0
    cases e
  clear hr0
  subst hn
  have hq := fun w : World => Lib.run_eql_slice_nil (P := Tryz.prog) w 38 2 none 0 c0 0 0 Tryz.underlying38
  go_enter Tryz.func109, Tryz.ntmps109
  go_wp2
  go_ret
  exact ⟨_, rfl, Kd.R_nil _ _ _ _ _, Below.refl _ _⟩
 | some ad =>
  clear hr0
  have hq := fun w : World => Lib.run_eql_slice_nil (P := Tryz.prog) w 38 2 (some ad) l0.length c0 0 0 Tryz.underlying38
  go_enter Tryz.func109, Tryz.ntmps109
  go_wp2_with (first | ((with_reducible refine gate_dst (N := 5) rfl ?_); refine Kd.R_lit (Kd.int .i64) _ 2 ?hg (N := 5) ?hd (xs := ([] : List Int)) (inner := []) (ok := fun _ => True) (okp := fun _ => True) ?hr ?hp (fun _ hk => hk) trivial (Below.refl _ _) (Nat.le_refl _) (by simp) ?_; (case hd => rfl); (case hg => rfl); (case hr => (go_simp; done)); (case hp => exact (Reps.none _ _)); intro v1 w3 ho hb hg_ hnew_; clear hg_ hnew_; have HO := Am ho; have HB := Am hb; clear ho hb) | ((with_reducible refine gate_builtin (b := .append) (xs := #[.tmp 5, .tmp 6]) rfl ?_); at_builtin; refine Kd.R_append_rows (Kd.int .i64) (w0 := w) w.heap.size rfl (.tmp 5) (.tmp 6) 38 2 (.int .i64 0) 8 rfl Tryz.underlying38 info2 rfl (by decide) (by omega) v1 [] l0 _ _ _ (fun _ => True) (fun _ => False) rfl rfl HO.out ?aR (fun _ _ h => h) (fun _ h => h.elim) (fun _ _ => trivial) HB.out HB.out.size ?aL ?_; (case aR => exact Kd.C_below HR0.out HB.out); (case aL => have := HL.out; simp only [List.length_nil]; omega); intro v2 w5 ho hb hg hat; have HO2 := Am ho; have HB2 := Am hb; clear ho hb hg hat))
  go_ret
  exact ⟨_, rfl, by simpa using HO2.out, HB2.out⟩
def qq.l0 : Nat → List Int → List (S86) → Int → Int → Option (List Int × Bool)
 | 0, _, _, _, _ => none
 | k + 1, x4, x7, x8, x9 => if x9 < x8 then (if 0 ≤ x9 then (if x9 < (x7.length : Int) then (if x4.length + ((rd_T86 x7 x9).f3).length < 17592186044416 then (qq.l0 k (x4 ++ ((rd_T86 x7 x9).f3)) x7 x8 (wrap64 (x9 + 1))) else (none)) else (none)) else (none)) else ((slices_Sort_int64_int64.f x4).bind fun t235 => ((q1i.f t235).bind fun t236 => ((slices_Compact_int64_int64.f t236).bind fun t239 => (some (t235, ((t239.length : Int) == (x4.length : Int)))))))
def qq.f (k : Nat) (l0 : List (S86)) : Option (List Int × Bool) := qq.l0 k ([] : List Int) l0 (l0.length : Int) 0
theorem qq.mono_l : ∀ k, (∀ y0 y1 y2 y3, LeO (qq.l0 k y0 y1 y2 y3) (qq.l0 (k + 1) y0 y1 y2 y3))
 | 0 => fun _ _ _ _ r h => by simp [qq.l0] at h
 | k + 1 => by
  have ih0 := qq.mono_l k
  ·intro y0 y1 y2 y3
   unfold qq.l0
   repeat' first | (with_reducible exact ih0 _ _ _ _) | (with_reducible exact LeO.refl _) | (with_reducible refine LeO.ite ?_ ?_)
theorem qq.mono : ∀ a0 k, LeO (qq.f k a0) (qq.f (k + 1) a0) := by
 intro a0 k
 have ih0 := qq.mono_l k
 unfold qq.f
 repeat' (with_reducible exact ih0 _ _ _ _)
set_option maxHeartbeats 8000000 in
set_option maxRecDepth 100000 in
theorem qq.calls (k : Nat) (A0 : Option Addr) (c0 : Nat) (l0 : List (S86)) (r1 : List Int) (r2 : Bool) (w : World) (hr0 : Kd.C k86 w A0 l0.length l0) (hc0 : l0.length ≤ c0) (h : qq.f k l0 = some (r1, r2)) :
  Calls Tryz.prog 122 #[.slice A0 l0.length c0] w fun e w' => ∃ v0_ : Value, e = .returned (.tuple #[v0_, .bool r2]) ∧ Kd.R (Kd.int .i64) 2 w' w.heap.size (fun _ => True) v0_ r1 ∧ Below w.heap.size w w' := by
 have hu86 := Tryz.underlying86
 have HR0 := Am hr0
 have HC0 := Am hc0
 clear hr0 hc0
 have HB := Am (Below.refl w.heap.size w)
 have H : (qq.l0 k ([] : List Int) l0 (l0.length : Int) 0) = some (r1, r2) := h
 clear h
 have H' := Am H
 clear H
 go_enter Tryz.func122, Tryz.ntmps122
 go_wp2
 go_loopg [4, 9] k (fun kq v4 v9 w' => ∃ (x4_1 : List Int) (x9_1 : Int), v9 = .int .i64 x9_1 ∧ Aside0 (qq.l0 kq x4_1 l0 (l0.length : Int) x9_1 = some (r1, r2)) ∧ Aside0 (kq ≤ k) ∧ Aside0 (Kd.R (Kd.int .i64) 2 w' w.heap.size (fun _ => True) v4 x4_1) ∧ Aside0 (Below w.heap.size w w'))
 case atStart => exact ⟨(([] : List Int)), (0), (by rfl), H', ⟨Nat.le_refl _⟩, ⟨by exact Kd.R_nil _ _ _ _ _⟩, ⟨HB.out⟩⟩
 case round =>
  clear H'
  obtain ⟨x4_1, x9_1, rfl, HA, HK1, HO_4, HB⟩ := hrel
  cases gk with
  | zero => exact absurd HA.out (by simp [qq.l0])
  | succ k1 =>
   have H := HA.out
   clear HA
   simp only [qq.l0] at H
   by_cases c2 : x9_1 < (l0.length : Int)
   ·rw [if_pos c2] at H
    have c2b0 : decide (x9_1 < (l0.length : Int)) = true := decide_eq_true c2
    clear c2
    replace H := ino H
    obtain ⟨c3, H⟩ := H
    have c3b0 : decide (0 ≤ x9_1) = true := decide_eq_true c3
    clear c3
    replace H := ino H
    obtain ⟨c4, H⟩ := H
    have c4b0 : decide (x9_1 < (l0.length : Int)) = true := decide_eq_true c4
    clear c4
    replace H := ino H
    obtain ⟨c5, H⟩ := H
    have LMc5 := Am c5
    clear c5
    obtain ⟨y232, hy232⟩ : ∃ y_ : List Int, y_ = (x4_1 ++ ((rd_T86 l0 x9_1).f3)) := ⟨_, rfl⟩
    replace H : (qq.l0 k1 y232 l0 (l0.length : Int) (wrap64 (x9_1 + 1))) = some (r1, r2) := by (rw [hy232]; with_reducible exact H)
    have Ny232 := Am hy232
    clear hy232
    have H' := Am H
    clear H
    have p230 : 0 ≤ (x9_1 : Int) := od (by assumption)
    have q230 : x9_1 < (l0.length : Int) := od (by assumption)
    obtain ⟨ad230, A230_3, c230_3, A230_4, c230_4, e230, hx230_0, hx230_1, hx230_2, hx230_3, hx230_4, hl230_3, hi230_3, hl230_4, hi230_4⟩ := at_T86 HR0.out x9_1 p230 q230
    cases e230
    replace hx230_0 := pcb HB.out hx230_0
    replace hx230_1 := pcb HB.out hx230_1
    replace hx230_2 := pcb HB.out hx230_2
    replace hx230_3 := pcb HB.out hx230_3
    replace hx230_4 := pcb HB.out hx230_4
    have HR230_3 := Am hi230_3
    have HC230_3 := Am hl230_3
    clear hi230_3 hl230_3
    have HR230_4 := Am hi230_4
    have HC230_4 := Am hl230_4
    clear hi230_4 hl230_4
    replace p230 := eq_true p230
    replace q230 := eq_true q230
    go_wp2_with (first | ((with_reducible refine gate_dst (N := 6) rfl ?_); refine box_event ?hg (N := 6) ?hd (cs := #[.int .i64 0, .int .i64 0, .int .i64 0, .slice none 0 0, .slice none 0 0]) (t := 86) ?hr ?_; (case hd => rfl); (case hg => rfl); (case hr => (go_simp; done)); intro gb231 hg w6 hbox hb; replace HO_4 := Am (Kd.R_below HO_4.out hb); have BK231 := Am hbox; have GW231 := Am ((nge hg HB.out)); have GE231 := Am ((nge hg HB.out)); replace HB := Am (below_step HB.out hb); clear hb hbox hg; obtain ⟨hcz7_0, hcz7_1, hcz7_2, hcz7_3, hcz7_4, hfz7_0, hfz7_1, hfz7_2, hfz7_3, hfz7_4⟩ := cb5 BK231.out) | ((with_reducible refine gate_builtin (b := .append) (xs := #[.tmp 13, .tmp 15]) rfl ?_); at_builtin; refine Kd.R_append_rows (Kd.int .i64) (w0 := w) w.heap.size rfl (.tmp 13) (.tmp 15) 38 2 (.int .i64 0) 8 rfl Tryz.underlying38 info2 rfl (by decide) (by omega) u4 x4_1 ((rd_T86 l0 x9_1).f3) _ _ _ (fun _ => True) (fun _ => False) rfl rfl ?aO ?aR (fun _ _ h => h) (fun _ h => h.elim) ?aF ?aB ?aS ?aL ?_; (case aR => exact Kd.C_below HR230_3.out (by repeat ((with_reducible first | exact HB.out | refine below_set ?_ GE231.out)))); (case aB => exact (by repeat ((with_reducible first | exact HB.out | refine below_set ?_ GE231.out)))); (case aF => exact (fun _ _ => trivial)); (case aO => exact (by exact Kd.R_mono (Kd.R_far (p := ⟨gb231, 4, none⟩) (Kd.R_far (p := ⟨gb231, 3, none⟩) (Kd.R_far (p := ⟨gb231, 2, none⟩) (Kd.R_far (p := ⟨gb231, 1, none⟩) (Kd.R_far (p := ⟨gb231, 0, none⟩) (Kd.R_types HO_4.out BK231.out (by decide)) (fun _ hk => hk.2) (.int .i64 ((rd_T86 l0 x9_1).f0))) (fun _ hk => hk.2) (.int .i64 ((rd_T86 l0 x9_1).f1))) (fun _ hk => hk.2) (.int .i64 ((rd_T86 l0 x9_1).f2))) (fun _ hk => hk.2) (.slice A230_3 ((rd_T86 l0 x9_1).f3).length c230_3)) (fun _ hk => hk.2) (.slice A230_4 ((rd_T86 l0 x9_1).f4).length c230_4)) (fun _ hk => trivial))); (case aS => exact (below_size (by repeat ((with_reducible first | exact HB.out | refine below_set ?_ GE231.out))))); (case aL => have := LMc5.out; omega); intro v233 w8 ho hb hg hat; rw [← Ny232.out] at ho; replace BK231 := Am (blk_grown (g := gb231) (o := .cells #[.int .i64 ((rd_T86 l0 x9_1).f0), .int .i64 ((rd_T86 l0 x9_1).f1), .int .i64 ((rd_T86 l0 x9_1).f2), .slice A230_3 ((rd_T86 l0 x9_1).f3).length c230_3, .slice A230_4 ((rd_T86 l0 x9_1).f4).length c230_4] 86 (0, 0)) (by refine blk_put (cs := #[.int .i64 ((rd_T86 l0 x9_1).f0), .int .i64 ((rd_T86 l0 x9_1).f1), .int .i64 ((rd_T86 l0 x9_1).f2), .slice A230_3 ((rd_T86 l0 x9_1).f3).length c230_3, .slice none 0 0]) ?_ 4 _ rfl; refine blk_put (cs := #[.int .i64 ((rd_T86 l0 x9_1).f0), .int .i64 ((rd_T86 l0 x9_1).f1), .int .i64 ((rd_T86 l0 x9_1).f2), .slice none 0 0, .slice none 0 0]) ?_ 3 _ rfl; refine blk_put (cs := #[.int .i64 ((rd_T86 l0 x9_1).f0), .int .i64 ((rd_T86 l0 x9_1).f1), .int .i64 0, .slice none 0 0, .slice none 0 0]) ?_ 2 _ rfl; refine blk_put (cs := #[.int .i64 ((rd_T86 l0 x9_1).f0), .int .i64 0, .int .i64 0, .slice none 0 0, .slice none 0 0]) ?_ 1 _ rfl; refine blk_put (cs := #[.int .i64 0, .int .i64 0, .int .i64 0, .slice none 0 0, .slice none 0 0]) ?_ 0 _ rfl; exact BK231.out) hg (Kd.R_ne HO_4.out BK231.out (by decide))); replace HB := Am hb; have HO234 := Am ho; clear HO_4; clear ho hb hg hat))
    go_roundg k1
    case measure => have := HK1.out; omega
    case rel => exact ⟨(y232), (wrap64 (x9_1 + 1)), (by rfl), H', ⟨by have := HK1.out; omega⟩, ⟨by exact HO234.out⟩, ⟨HB.out⟩⟩
   ·rw [if_neg c2] at H
    have c2b0 : decide (x9_1 < (l0.length : Int)) = false := decide_eq_false c2
    clear c2
    replace H := zbs H
    obtain ⟨t235, A9, H⟩ := H
    replace H := zbs H
    obtain ⟨t236, A10, H⟩ := H
    replace H := zbs H
    obtain ⟨t239, A11, H⟩ := H
    simp only [Option.some.injEq, Prod.mk.injEq] at H
    obtain ⟨rfl, rfl⟩ := H
    obtain ⟨Ao12, co12, eo12⟩ := Kd.R_slice HO_4.out
    subst eo12
    go_wp2_with (first | ((with_reducible refine gate_callee (f := 190) rfl ?_); refine goesL_ (some 19) rfl rfl Tryz.func190 (by kernel_rfl) rfl #[.slice Ao12 x4_1.length co12] rfl (by (try simp only [List.map_toArray, List.map_cons, List.map_nil]); rfl) ?_; (with_reducible refine (slices_Sort_int64_int64.calls (fun k_ => some k_ = (.slice Ao12 x4_1.length co12 : Value).ownBlock) (.slice Ao12 x4_1.length co12) x4_1 t235 w _ ?side1 ?side2 A9.out).mono ?_); (case side1 => repeat ((with_reducible exact HB.out))); (case side2 => exact Kd.R_tight rfl HO_4.out); rintro e w13 ⟨rfl, hy0, hb, hkp⟩; refine ⟨_, rfl, ?_⟩; replace HO_4 := Am (Kd.R_reok rfl hy0 (fun k_ e_ => HO_4.out.1 k_ e_)); replace HB := Am hb; (try clear hb); (try clear hkp); (try clear hy0)) | ((with_reducible refine gate_callee (f := 109) rfl ?_); refine goesL_ (some 22) rfl rfl Tryz.func109 (by kernel_rfl) rfl #[.slice Ao12 t235.length co12] rfl (by (try simp only [List.map_toArray, List.map_cons, List.map_nil]); (rw [show t235.length = x4_1.length from (Kd.R_reads' HO_4.out).1.symm] <;> rfl)) ?_; (with_reducible refine (q1i.calls _ _ t235 t236 _ ?side1 ?side2 A10.out).mono ?_); (case side1 => repeat (exact (Kd.R_reads' HO_4.out).2.2)); (case side2 => rw [show t235.length = x4_1.length from (Kd.R_reads' HO_4.out).1.symm]; exact (Kd.R_reads' HO_4.out).2.1); rintro e w14 ⟨v237, rfl, ho0, hb⟩; refine ⟨_, rfl, ?_⟩; have HO238 := Am (Kd.R_lower (Kd.R_new' ho0 (Kd.R_lt HO_4.out)) (below_size HB.out)); replace HO_4 := Am (Kd.R_elder' HO_4.out (Kd.R_base ho0) hb); replace HB := Am (below_step HB.out hb); (try clear hb); (try clear ho0); obtain ⟨Ao15, co15, eo15⟩ := Kd.R_slice HO238.out; subst eo15) | ((with_reducible refine gate_callee (f := 191) rfl ?_); refine goesL_ (some 23) rfl rfl Tryz.func191 (by kernel_rfl) rfl #[.slice Ao15 t236.length co15] rfl (by (try simp only [List.map_toArray, List.map_cons, List.map_nil]); rfl) ?_; (with_reducible refine (slices_Compact_int64_int64.calls (fun k_ => some k_ = (.slice Ao15 t236.length co15 : Value).ownBlock) (.slice Ao15 t236.length co15) t236 t239 w _ ?side1 ?side2 A11.out).mono ?_); (case side1 => repeat ((with_reducible exact HB.out))); (case side2 => exact Kd.R_tight rfl HO238.out); rintro e w16 ⟨v240, rfl, ho0, hb, hkp⟩; refine ⟨_, rfl, ?_⟩; have HO241 := Am (Kd.R_mono (ok' := fun k_ => some k_ ≠ (.slice Ao12 x4_1.length co12 : Value).ownBlock) ho0 (fun k_ hk_ => Or.elim hk_ (fun hs_ => fun e_ => (((HO_4.out).1 k_ e_.symm).2) hs_) (fun hn_ => (Kd.fresh' (Kd.R_lt HO_4.out) k_ hn_)))); replace HO_4 := Am (Kd.R_mono (ok' := fun k_ => some k_ ≠ (v240 : Value).ownBlock) (Kd.R_keptB (HO_4.out) hkp (fun k_ hk_ hs_ => (hk_.2) hs_)) (fun k_ hk_ => fun e_ => Or.elim (ho0.1 k_ e_.symm) (fun hs_ => hk_.2.1 hs_) (fun hn_ => Nat.not_le.2 hk_.2.2 hn_))); replace HB := Am hb; clear HO238; (try clear hb); (try clear hkp); (try clear ho0); obtain ⟨Ao17, co17, eo17⟩ := Kd.R_slice HO241.out; subst eo17))
    go_ret2
    exact ⟨_, by rfl, by exact Kd.R_mono HO_4.out (fun _ hk => trivial), HB.out⟩
def qp.f (l0 : List Int) : Option (Bool) := some (decide ((l0.length : Int) > 8))
set_option maxHeartbeats 8000000 in
set_option maxRecDepth 100000 in
theorem qp.calls (A0 : Option Addr) (c0 : Nat) (l0 : List Int) (r : Bool) (w : World) (hr0 : Kd.C (Kd.int .u8) w A0 l0.length l0) (hc0 : l0.length ≤ c0) (h : qp.f l0 = some r) :
  Calls Tryz.prog 174 #[.slice A0 l0.length c0] w fun e w' => e = .returned (.bool r) ∧ Drawn0 w w' := by
 have HR0 := Am hr0
 have HC0 := Am hc0
 clear hr0 hc0
 have H : (some (decide ((l0.length : Int) > 8))) = some r := h
 clear h
 obtain rfl := Option.some.inj H
 go_enter Tryz.func174, Tryz.ntmps174
 go_wp2
 go_ret
 exact ⟨by rfl, by repeat (exact Drawn0.refl _)⟩
def q1m.l0 : Nat → List (List Int) → Int → Int → Option (Int)
 | 0, _, _, _ => none
 | k + 1, x0, x7, x8 => if x8 < x7 then (if 0 ≤ x8 then (if x8 < (x0.length : Int) then ((qp.f (rd_L1 x0 x8)).bind fun t280 => (if t280 = true then (some x8) else (q1m.l0 k x0 x7 (wrap64 (x8 + 1))))) else (none)) else (none)) else (some (-1))
def q1m.f (k : Nat) (l0 : List (List Int))  : Option (Int) := q1m.l0 k l0 (l0.length : Int) 0
theorem q1m.mono_l : ∀ k, (∀ y0 y1 y2, LeO (q1m.l0 k y0 y1 y2) (q1m.l0 (k + 1) y0 y1 y2))
 | 0 => fun _ _ _ r h => by simp [q1m.l0] at h
 | k + 1 => by
  have ih0 := q1m.mono_l k
  ·intro y0 y1 y2
   unfold q1m.l0
   repeat' first | (with_reducible exact ih0 _ _ _) | (with_reducible exact LeO.refl _) | (with_reducible refine LeO.ite ?_ ?_) | (with_reducible refine LeO.bind ?_ (fun _ => ?_))
theorem q1m.mono : ∀ a0 k, LeO (q1m.f k a0) (q1m.f (k + 1) a0) := by
 intro a0 k
 have ih0 := q1m.mono_l k
 unfold q1m.f
 repeat' (with_reducible exact ih0 _ _ _)
set_option maxHeartbeats 8000000 in
set_option maxRecDepth 100000 in
theorem q1m.calls (k : Nat) (A0 : Option Addr) (c0 : Nat) (l0 : List (List Int))  (r : Int) (w : World) (hr0 : Kd.C (Kd.slice 5 (Kd.int .u8)) w A0 l0.length l0) (hc0 : l0.length ≤ c0) (h : q1m.f k l0 = some r) :
  Calls Tryz.prog 227 #[.slice A0 l0.length c0, .func (.func 174) #[] #[]] w fun e w' => e = .returned (.int .i64 r) ∧ Drawn0 w w' := by
 have HR0 := Am hr0
 have HC0 := Am hc0
 clear hr0 hc0
 have H : (q1m.l0 k l0 (l0.length : Int) 0) = some r := h
 clear h
 have H' := Am H
 clear H
 go_enter Tryz.func227, Tryz.ntmps227
 go_wp2
 go_loopg [8] k (fun kq v8 w' => ∃ (x8_1 : Int), v8 = .int .i64 x8_1 ∧ Aside0 (q1m.l0 kq l0 (l0.length : Int) x8_1 = some r) ∧ Aside0 (kq ≤ k) ∧ Drawn0 w w')
 case atStart => exact ⟨(0), (by rfl), H', ⟨Nat.le_refl _⟩, by repeat (exact Drawn0.refl _)⟩
 case round =>
  clear H'
  obtain ⟨x8_1, rfl, HA, HK1, ⟨m1, rfl⟩⟩ := hrel
  cases gk with
  | zero => exact absurd HA.out (by simp [q1m.l0])
  | succ k1 =>
   have H := HA.out
   clear HA
   simp only [q1m.l0] at H
   by_cases c3 : x8_1 < (l0.length : Int)
   ·rw [if_pos c3] at H
    have c3b0 : decide (x8_1 < (l0.length : Int)) = true := decide_eq_true c3
    clear c3
    replace H := ino H
    obtain ⟨c4, H⟩ := H
    have c4b0 : decide (0 ≤ x8_1) = true := decide_eq_true c4
    clear c4
    replace H := ino H
    obtain ⟨c5, H⟩ := H
    have c5b0 : decide (x8_1 < (l0.length : Int)) = true := decide_eq_true c5
    clear c5
    replace H := zbs H
    obtain ⟨t280, A6, H⟩ := H
    by_cases c7 : t280 = true
    ·subst c7
     have H1 : (some x8_1) = some r := by rw [if_pos rfl] at H; exact H
     clear H
     have H := H1
     clear H1
     obtain rfl := Option.some.inj H
     have p279 : 0 ≤ (x8_1 : Int) := od (by assumption)
     have q279 : x8_1 < (l0.length : Int) := od (by assumption)
     obtain ⟨ad279, A279_0, c279_0, e279, hx279_0, hl279_0, hi279_0⟩ := at_L1 HR0.out x8_1 p279 q279
     cases e279
     have HR279_0 := Am hi279_0
     have HC279_0 := Am hl279_0
     clear hi279_0 hl279_0
     replace p279 := eq_true p279
     replace q279 := eq_true q279
     go_wp2_with (((with_reducible refine gate_calleeT rfl ?_); refine goesT_ (some 16) rfl rfl Tryz.func174 (by kernel_rfl) rfl #[.slice A279_0 (rd_L1 l0 x8_1).length c279_0] rfl (by (try simp only [List.map_toArray, List.map_cons, List.map_nil]); rfl) ?_; (with_reducible refine (qp.calls _ _ (rd_L1 l0 x8_1) true _ ?side1 ?side2 A6.out).mono ?_); (case side1 => repeat (exact HR279_0.out)); (case side2 => exact HC279_0.out); rintro e w' ⟨rfl, ⟨nd, rfl⟩⟩; refine ⟨_, rfl, ?_⟩))
     go_ret
     exact ⟨by rfl, by repeat (first | exact Drawn0.refl _ | apply Drawn0.step)⟩
    ·replace c7 := Bool.eq_false_iff.mpr c7
     subst c7
     have H1 : (q1m.l0 k1 l0 (l0.length : Int) (wrap64 (x8_1 + 1))) = some r := by rw [if_neg (show ¬ (false = true) by decide)] at H; exact H
     clear H
     have H := H1
     clear H1
     have H' := Am H
     clear H
     have p279 : 0 ≤ (x8_1 : Int) := od (by assumption)
     have q279 : x8_1 < (l0.length : Int) := od (by assumption)
     obtain ⟨ad279, A279_0, c279_0, e279, hx279_0, hl279_0, hi279_0⟩ := at_L1 HR0.out x8_1 p279 q279
     cases e279
     have HR279_0 := Am hi279_0
     have HC279_0 := Am hl279_0
     clear hi279_0 hl279_0
     replace p279 := eq_true p279
     replace q279 := eq_true q279
     go_wp2_with (((with_reducible refine gate_calleeT rfl ?_); refine goesT_ (some 16) rfl rfl Tryz.func174 (by kernel_rfl) rfl #[.slice A279_0 (rd_L1 l0 x8_1).length c279_0] rfl (by (try simp only [List.map_toArray, List.map_cons, List.map_nil]); rfl) ?_; (with_reducible refine (qp.calls _ _ (rd_L1 l0 x8_1) false _ ?side1 ?side2 A6.out).mono ?_); (case side1 => repeat (exact HR279_0.out)); (case side2 => exact HC279_0.out); rintro e w' ⟨rfl, ⟨nd, rfl⟩⟩; refine ⟨_, rfl, ?_⟩))
     go_roundg k1
     case measure => have := HK1.out; omega
     case rel => exact ⟨(wrap64 (x8_1 + 1)), (by rfl), H', ⟨by have := HK1.out; omega⟩, by repeat (first | exact Drawn0.refl _ | apply Drawn0.step)⟩
   ·rw [if_neg c3] at H
    have c3b0 : decide (x8_1 < (l0.length : Int)) = false := decide_eq_false c3
    clear c3
    obtain rfl := Option.some.inj H
    go_wp2
    go_ret
    exact ⟨by rfl, by repeat (first | exact Drawn0.refl _ | apply Drawn0.step)⟩
def q1j.f (k : Nat) (l0 : List (List Int))  : Option (Bool) := (q1m.f k l0).bind fun t281 => (some (decide (t281 ≥ 0)))
theorem q1j.mono : ∀ a0 k, LeO (q1j.f k a0) (q1j.f (k + 1) a0) := by
 intro a0 k
 unfold q1j.f
 repeat' first | (with_reducible exact q1m.mono _ _) | (with_reducible exact LeO.refl _) | (with_reducible refine LeO.bind ?_ (fun _ => ?_))
set_option maxHeartbeats 8000000 in
set_option maxRecDepth 100000 in
theorem q1j.calls (k : Nat) (A0 : Option Addr) (c0 : Nat) (l0 : List (List Int))  (r : Bool) (w : World) (hr0 : Kd.C (Kd.slice 5 (Kd.int .u8)) w A0 l0.length l0) (hc0 : l0.length ≤ c0) (h : q1j.f k l0 = some r) :
  Calls Tryz.prog 173 #[.slice A0 l0.length c0, .func (.func 174) #[] #[]] w fun e w' => e = .returned (.bool r) ∧ Drawn0 w w' := by
 have HR0 := Am hr0
 have HC0 := Am hc0
 clear hr0 hc0
 have H : ((q1m.f k l0).bind fun t281 => (some (decide (t281 ≥ 0)))) = some r := h
 clear h
 replace H := zbs H
 obtain ⟨t281, A3, H⟩ := H
 obtain rfl := Option.some.inj H
 go_enter Tryz.func173, Tryz.ntmps173
 go_wp2_with (((with_reducible refine gate_callee (f := 227) rfl ?_); refine goesL_ (some 7) rfl rfl Tryz.func227 (by kernel_rfl) rfl #[.slice A0 l0.length c0, .func (.func 174) #[] #[]] rfl (by (try simp only [List.map_toArray, List.map_cons, List.map_nil]); rfl) ?_; (with_reducible refine (q1m.calls k _ _ l0 t281 _ ?side1 ?side2 A3.out).mono ?_); (case side1 => repeat (exact HR0.out)); (case side2 => exact HC0.out); rintro e w' ⟨rfl, ⟨nd, rfl⟩⟩; refine ⟨_, rfl, ?_⟩))
 go_ret
 exact ⟨by rfl, by repeat (first | exact Drawn0.refl _ | apply Drawn0.step)⟩
end Go.Proofs.YtafhjhdohclchaaGreatDoor.G
namespace Go.Proofs.YtafhjhdohclchaaGreatDoor.G
open Go.RowKit Go.Proofs.YtafhjhdohclchaaGreatDoorW.PrintWords Go.Proofs.YtafhjhdohclchaaGreatDoorW.PrintLast Go.Proofs.YtafhjhdohclchaaGreatDoorW.PrintMore
attribute [local go_sem] min2_int min_two
attribute [local go_sem high] str_leq
attribute [local go_sem] binOp_string_geq
mutual
def qo.l0 : Nat → List (S86) → Int → Int → List (S86) → List (List Int) → Option (Int)
 | 0, _, _, _, _, _ => none
 | k + 1, x27, x28, x29, x283000, x283001 => if x29 < x28 then (if 0 ≤ x29 then (if x29 < (x27.length : Int) then (qo.l1 k x27 x28 x29 ((rd_T86 x27 x29).f4) (((rd_T86 x27 x29).f4).length : Int) 0 x283000 x283001) else (none)) else (none)) else (some 0)
def qo.l1 : Nat → List (S86) → Int → Int → List (S143) → Int → Int → List (S86) → List (List Int) → Option (Int)
 | 0, _, _, _, _, _, _, _, _ => none
 | k + 1, x27, x28, x29, x34, x35, x36, x283000, x283001 => if x36 < x35 then (if 0 ≤ x36 then (if x36 < (x34.length : Int) then ((q4.f x283000).bind fun t293 => (if ((rd_T143 x34 x36).f1) ≥ t293 then (some 4) else (if 0 ≤ ((rd_T143 x34 x36).f1) then (if ((rd_T143 x34 x36).f1) < (x283000.length : Int) then (if ((rd_T86 x283000 ((rd_T143 x34 x36).f1)).f0) = 0 then (some 4) else (qo.l1 k x27 x28 x29 x34 x35 (wrap64 (x36 + 1)) x283000 x283001)) else (none)) else (none)))) else (none)) else (none)) else (qo.l0 k x27 x28 (wrap64 (x29 + 1)) x283000 x283001)
end
def qo.f (k : Nat) (l0_0 : List (S86)) (l0_1 : List (List Int)) : Option (Int) := (qk.f k l0_0 l0_1).bind fun t283 => (if t283 = 0 then ((q1j.f k l0_1).bind fun t284 => (if t284 = true then (some 2) else ((qq.f k l0_0).bind fun bt285 => (if bt285.2 = true then (qo.l0 k l0_0 (l0_0.length : Int) 0 l0_0 l0_1) else (some 7))))) else (some t283))
theorem qo.mono_l : ∀ k, (∀ y0 y1 y2 y3 y4, LeO (qo.l0 k y0 y1 y2 y3 y4) (qo.l0 (k + 1) y0 y1 y2 y3 y4)) ∧ (∀ y0 y1 y2 y3 y4 y5 y6 y7, LeO (qo.l1 k y0 y1 y2 y3 y4 y5 y6 y7) (qo.l1 (k + 1) y0 y1 y2 y3 y4 y5 y6 y7))
 | 0 => ⟨fun _ _ _ _ _ r h => by simp [qo.l0] at h, fun _ _ _ _ _ _ _ _ r h => by simp [qo.l1] at h⟩
 | k + 1 => by
  obtain ⟨ih0, ih1⟩ := qo.mono_l k
  refine ⟨?_, ?_⟩
  ·intro y0 y1 y2 y3 y4
   unfold qo.l0
   repeat' first | (with_reducible exact ih1 _ _ _ _ _ _ _ _) | (with_reducible exact LeO.refl _) | (with_reducible refine LeO.ite ?_ ?_)
  ·intro y0 y1 y2 y3 y4 y5 y6 y7
   unfold qo.l1
   repeat' first | (with_reducible exact ih0 _ _ _ _ _) | (with_reducible exact ih1 _ _ _ _ _ _ _ _) | (with_reducible exact LeO.refl _) | (with_reducible refine LeO.ite ?_ ?_) | (with_reducible refine LeO.bind ?_ (fun _ => ?_))
theorem qo.mono : ∀ a0 a1 k, LeO (qo.f k a0 a1) (qo.f (k + 1) a0 a1) := by
 intro a0 a1 k
 obtain ⟨ih0, ih1⟩ := qo.mono_l k
 unfold qo.f
 repeat' first | (with_reducible exact ih0 _ _ _ _ _) | (with_reducible exact qk.mono _ _ _) | (with_reducible exact qq.mono _ _) | (with_reducible exact q1j.mono _ _) | (with_reducible exact LeO.refl _) | (with_reducible refine LeO.ite ?_ ?_) | (with_reducible refine LeO.bind ?_ (fun _ => ?_))
set_option maxHeartbeats 8000000 in
set_option maxRecDepth 100000 in
theorem qo.calls (k : Nat) (A0_0 : Option Addr) (c0_0 : Nat) (l0_0 : List (S86)) (A0_1 : Option Addr) (c0_1 : Nat) (l0_1 : List (List Int)) (r : Int) (w : World) (hr0_0 : Kd.C k86 w A0_0 l0_0.length l0_0) (hc0_0 : l0_0.length ≤ c0_0) (hr0_1 : Kd.C (Kd.slice 5 (Kd.int .u8)) w A0_1 l0_1.length l0_1) (hc0_1 : l0_1.length ≤ c0_1) (h : qo.f k l0_0 l0_1 = some r) :
  Calls Tryz.prog 104 #[.agg #[.slice A0_0 l0_0.length c0_0, .slice A0_1 l0_1.length c0_1]] w fun e w' => e = .returned (.int .i64 r) ∧ Below w.heap.size w w' := by
 have hu28 := Tryz.underlying28
 have hu86 := Tryz.underlying86
 have hu143 := Tryz.underlying143
 have HR0_0 := Am hr0_0
 have HC0_0 := Am hc0_0
 clear hr0_0 hc0_0
 have HR0_1 := Am hr0_1
 have HC0_1 := Am hc0_1
 clear hr0_1 hc0_1
 have HB := Am (Below.refl w.heap.size w)
 have H : ((qk.f k l0_0 l0_1).bind fun t283 => (if t283 = 0 then ((q1j.f k l0_1).bind fun t284 => (if t284 = true then (some 2) else ((qq.f k l0_0).bind fun bt285 => (if bt285.2 = true then (qo.l0 k l0_0 (l0_0.length : Int) 0 l0_0 l0_1) else (some 7))))) else (some t283))) = some r := h
 clear h
 replace H := zbs H
 obtain ⟨t283, A2, H⟩ := H
 by_cases c3 : t283 = 0
 ·rw [if_pos c3] at H
  have c3b0 : (t283 == 0) = true := beq_iff_eq.mpr c3
  have c3b1 : (t283 != 0) = false := bne_eq_false_iff_eq.mpr c3
  clear c3
  replace H := zbs H
  obtain ⟨t284, A4, H⟩ := H
  by_cases c5 : t284 = true
  ·subst c5
   have H1 : (some 2) = some r := by rw [if_pos rfl] at H; exact H
   clear H
   have H := H1
   clear H1
   obtain rfl := Option.some.inj H
   go_enter Tryz.func104, Tryz.ntmps104
   go_wp2_with (first | ((with_reducible refine gate_dst (N := 1) rfl ?_); refine box_event ?hg (N := 1) ?hd (cs := #[.slice A0_0 l0_0.length c0_0, .slice A0_1 l0_1.length c0_1]) (t := 28) ?hr ?_; (case hd => rfl); (case hg => rfl); (case hr => (go_simp; done)); intro gb282 hg w6 hbox hb; have BK282 := Am hbox; have GW282 := Am ((nge hg HB.out)); have GE282 := Am ((nge hg HB.out)); replace HB := Am (below_step HB.out hb); clear hb hbox hg; obtain ⟨hcz7_0, hcz7_1, hfz7_0, hfz7_1⟩ := cb2 BK282.out) | (go_at_call 172; (with_reducible refine (qk.calls k _ _ l0_0 _ _ l0_1 t283 _ ?side1 ?side2 ?side3 ?side4 A2.out).mono ?_); (case side1 => repeat (exact (Kd.C_below HR0_0.out HB.out))); (case side2 => exact HC0_0.out); (case side3 => repeat (exact (Kd.C_below HR0_1.out HB.out))); (case side4 => exact HC0_1.out); rintro e w8 ⟨rfl, hb⟩; replace BK282 := Am (blk_below BK282.out hb); replace HB := Am (below_step HB.out hb); (try clear hb); obtain ⟨hcz9_0, hcz9_1, hfz9_0, hfz9_1⟩ := cb2 BK282.out) | (go_at_call 173; (with_reducible refine (q1j.calls k _ _ l0_1 true _ ?side1 ?side2 A4.out).mono ?_); (case side1 => repeat (exact (Kd.C_below HR0_1.out HB.out))); (case side2 => exact HC0_1.out); rintro e w' ⟨rfl, ⟨nd, rfl⟩⟩))
   repeat (go_quiet (first | ((with_reducible refine gate_dst (N := 1) rfl ?_); refine box_event ?hg (N := 1) ?hd (cs := #[.slice A0_0 l0_0.length c0_0, .slice A0_1 l0_1.length c0_1]) (t := 28) ?hr ?_; (case hd => rfl); (case hg => rfl); (case hr => first | (go_simp; done) | (go_simp; rfl)); intro gb282 hg w6 hbox hb; have BK282 := Am hbox; have GW282 := Am ((nge hg (by repeat (first | (with_reducible first | exact HB.out | apply below_alloc | apply pw_below_drewN | apply below_drew1) | exact HB.out)))); have GE282 := Am ((nge hg (by repeat (first | (with_reducible first | exact HB.out | apply below_alloc | apply pw_below_drewN | apply below_drew1) | exact HB.out)))); replace HB := Am (below_step (by repeat (first | (with_reducible first | exact HB.out | apply below_alloc | apply pw_below_drewN | apply below_drew1) | exact HB.out)) hb); clear hb hbox hg; obtain ⟨hcz7_0, hcz7_1, hfz7_0, hfz7_1⟩ := cb2 BK282.out) | (go_at_call 172; (with_reducible refine (qk.calls k _ _ l0_0 _ _ l0_1 t283 _ ?side1 ?side2 ?side3 ?side4 A2.out).mono ?_); (case side1 => repeat (first | exact (Kd.C_below HR0_0.out HB.out) | (with_reducible refine Kd.C_alloc ?_ _) | (with_reducible refine Kd.C_drewN ?_ _) | (with_reducible refine Kd.C_drew ?_))); (case side2 => exact HC0_0.out); (case side3 => repeat (first | exact (Kd.C_below HR0_1.out HB.out) | (with_reducible refine Kd.C_alloc ?_ _) | (with_reducible refine Kd.C_drewN ?_ _) | (with_reducible refine Kd.C_drew ?_))); (case side4 => exact HC0_1.out); rintro e w8 ⟨rfl, hb⟩; replace BK282 := Am (blk_below (by (with_reducible repeat (first | refine blk_drewN ?_ _ | refine blk_drew ?_ | refine blk_alloc ?_ _)); exact BK282.out) hb); replace HB := Am (below_step (by repeat (first | (with_reducible first | exact HB.out | apply below_alloc | apply pw_below_drewN | apply below_drew1 | refine below_set ?_ GE282.out) | exact HB.out)) hb); (try clear hb); (try clear hb2); (try clear hk); (try clear hi); obtain ⟨hcz9_0, hcz9_1, hfz9_0, hfz9_1⟩ := cb2 BK282.out) | (go_at_call 173; (with_reducible refine (q1j.calls k _ _ l0_1 true _ ?side1 ?side2 A4.out).mono ?_); (case side1 => repeat (first | exact (Kd.C_below HR0_1.out HB.out) | (with_reducible refine Kd.C_alloc ?_ _) | (with_reducible refine Kd.C_drewN ?_ _) | (with_reducible refine Kd.C_drew ?_))); (case side2 => exact HC0_1.out); rintro e w' ⟨rfl, ⟨nd, rfl⟩⟩; (try first | exact ⟨rfl, _, World.drewN_drewN _ _ _⟩ | exact ⟨rfl, _, Eq.trans (World.drewN_drewN _ _ _) (congrArg (World.drewN _) (Nat.add_assoc _ _ _))⟩))))
   go_ret
   exact ⟨by rfl, by repeat ((with_reducible first | exact HB.out | apply pw_below_drewN))⟩
  ·replace c5 := Bool.eq_false_iff.mpr c5
   subst c5
   have H1 : ((qq.f k l0_0).bind fun bt285 => (if bt285.2 = true then (qo.l0 k l0_0 (l0_0.length : Int) 0 l0_0 l0_1) else (some 7))) = some r := by rw [if_neg (show ¬ (false = true) by decide)] at H; exact H
   clear H
   have H := H1
   clear H1
   replace H := Option.bind_eq_some_iff.mp H
   obtain ⟨⟨t285, t286⟩, A100, H⟩ := H
   replace H : (if t286 = true then (qo.l0 k l0_0 (l0_0.length : Int) 0 l0_0 l0_1) else (some 7)) = some r := H
   have A10 := Am A100
   clear A100
   by_cases c11 : t286 = true
   ·subst c11
    have H1 : (qo.l0 k l0_0 (l0_0.length : Int) 0 l0_0 l0_1) = some r := by rw [if_pos rfl] at H; exact H
    clear H
    have H := H1
    clear H1
    have H' := Am H
    clear H
    go_enter Tryz.func104, Tryz.ntmps104
    go_wp2_with (first | ((with_reducible refine gate_dst (N := 1) rfl ?_); refine box_event ?hg (N := 1) ?hd (cs := #[.slice A0_0 l0_0.length c0_0, .slice A0_1 l0_1.length c0_1]) (t := 28) ?hr ?_; (case hd => rfl); (case hg => rfl); (case hr => (go_simp; done)); intro gb282 hg w12 hbox hb; have BK282 := Am hbox; have GW282 := Am ((nge hg HB.out)); have GE282 := Am ((nge hg HB.out)); replace HB := Am (below_step HB.out hb); clear hb hbox hg; obtain ⟨hcz13_0, hcz13_1, hfz13_0, hfz13_1⟩ := cb2 BK282.out) | (go_at_call 172; (with_reducible refine (qk.calls k _ _ l0_0 _ _ l0_1 t283 _ ?side1 ?side2 ?side3 ?side4 A2.out).mono ?_); (case side1 => repeat (exact (Kd.C_below HR0_0.out HB.out))); (case side2 => exact HC0_0.out); (case side3 => repeat (exact (Kd.C_below HR0_1.out HB.out))); (case side4 => exact HC0_1.out); rintro e w14 ⟨rfl, hb⟩; replace BK282 := Am (blk_below BK282.out hb); replace HB := Am (below_step HB.out hb); (try clear hb); obtain ⟨hcz15_0, hcz15_1, hfz15_0, hfz15_1⟩ := cb2 BK282.out) | (go_at_call 173; (with_reducible refine (q1j.calls k _ _ l0_1 false _ ?side1 ?side2 A4.out).mono ?_); (case side1 => repeat (exact (Kd.C_below HR0_1.out HB.out))); (case side2 => exact HC0_1.out); rintro e w' ⟨rfl, ⟨nd, rfl⟩⟩) | (go_at_call 122; (with_reducible refine (qq.calls k _ _ l0_0 t285 true _ ?side1 ?side2 A10.out).mono ?_); (case side1 => repeat (exact (Kd.C_below HR0_0.out (by repeat ((with_reducible first | exact HB.out | apply pw_below_drewN)))))); (case side2 => exact HC0_0.out); rintro e w16 ⟨v287, rfl, ho0, hb⟩; have HO288 := Am (Kd.R_lower ho0 (below_size (by repeat ((with_reducible first | exact HB.out | apply pw_below_drewN))))); replace BK282 := Am (blk_below (by (with_reducible repeat (refine blk_drewN ?_ _)); exact BK282.out) hb); replace HB := Am (below_step (by repeat ((with_reducible first | exact HB.out | apply pw_below_drewN))) hb); (try clear hb); (try clear ho0); obtain ⟨hcz17_0, hcz17_1, hfz17_0, hfz17_1⟩ := cb2 BK282.out))
    repeat (go_quiet (first | ((with_reducible refine gate_dst (N := 1) rfl ?_); refine box_event ?hg (N := 1) ?hd (cs := #[.slice A0_0 l0_0.length c0_0, .slice A0_1 l0_1.length c0_1]) (t := 28) ?hr ?_; (case hd => rfl); (case hg => rfl); (case hr => first | (go_simp; done) | (go_simp; rfl)); intro gb282 hg w12 hbox hb; have BK282 := Am hbox; have GW282 := Am ((nge hg (by repeat (first | (with_reducible first | exact HB.out | apply below_alloc | apply pw_below_drewN | apply below_drew1) | exact HB.out)))); have GE282 := Am ((nge hg (by repeat (first | (with_reducible first | exact HB.out | apply below_alloc | apply pw_below_drewN | apply below_drew1) | exact HB.out)))); replace HB := Am (below_step (by repeat (first | (with_reducible first | exact HB.out | apply below_alloc | apply pw_below_drewN | apply below_drew1) | exact HB.out)) hb); clear hb hbox hg; obtain ⟨hcz13_0, hcz13_1, hfz13_0, hfz13_1⟩ := cb2 BK282.out) | (go_at_call 172; (with_reducible refine (qk.calls k _ _ l0_0 _ _ l0_1 t283 _ ?side1 ?side2 ?side3 ?side4 A2.out).mono ?_); (case side1 => repeat (first | exact (Kd.C_below HR0_0.out HB.out) | (with_reducible refine Kd.C_alloc ?_ _) | (with_reducible refine Kd.C_drewN ?_ _) | (with_reducible refine Kd.C_drew ?_))); (case side2 => exact HC0_0.out); (case side3 => repeat (first | exact (Kd.C_below HR0_1.out HB.out) | (with_reducible refine Kd.C_alloc ?_ _) | (with_reducible refine Kd.C_drewN ?_ _) | (with_reducible refine Kd.C_drew ?_))); (case side4 => exact HC0_1.out); rintro e w14 ⟨rfl, hb⟩; replace BK282 := Am (blk_below (by (with_reducible repeat (first | refine blk_drewN ?_ _ | refine blk_drew ?_ | refine blk_alloc ?_ _)); exact BK282.out) hb); replace HB := Am (below_step (by repeat (first | (with_reducible first | exact HB.out | apply below_alloc | apply pw_below_drewN | apply below_drew1 | refine below_set ?_ GE282.out) | exact HB.out)) hb); (try clear hb); (try clear hb2); (try clear hk); (try clear hi); obtain ⟨hcz15_0, hcz15_1, hfz15_0, hfz15_1⟩ := cb2 BK282.out) | (go_at_call 173; (with_reducible refine (q1j.calls k _ _ l0_1 false _ ?side1 ?side2 A4.out).mono ?_); (case side1 => repeat (first | exact (Kd.C_below HR0_1.out HB.out) | (with_reducible refine Kd.C_alloc ?_ _) | (with_reducible refine Kd.C_drewN ?_ _) | (with_reducible refine Kd.C_drew ?_))); (case side2 => exact HC0_1.out); rintro e w' ⟨rfl, ⟨nd, rfl⟩⟩; (try first | exact ⟨rfl, _, World.drewN_drewN _ _ _⟩ | exact ⟨rfl, _, Eq.trans (World.drewN_drewN _ _ _) (congrArg (World.drewN _) (Nat.add_assoc _ _ _))⟩)) | (go_at_call 122; (with_reducible refine (qq.calls k _ _ l0_0 t285 true _ ?side1 ?side2 A10.out).mono ?_); (case side1 => repeat (first | exact (Kd.C_below HR0_0.out (by repeat (first | (with_reducible first | exact HB.out | apply below_alloc | apply pw_below_drewN | apply below_drew1 | refine below_set ?_ GE282.out) | exact HB.out))) | (with_reducible refine Kd.C_alloc ?_ _) | (with_reducible refine Kd.C_drewN ?_ _) | (with_reducible refine Kd.C_drew ?_))); (case side2 => exact HC0_0.out); rintro e w16 ⟨v287, rfl, ho0, hb⟩; have HO288 := Am (Kd.R_lower ho0 (below_size (by repeat (first | (with_reducible first | exact HB.out | apply below_alloc | apply pw_below_drewN | apply below_drew1 | refine below_set ?_ GE282.out) | exact HB.out)))); replace BK282 := Am (blk_below (by (with_reducible repeat (first | refine blk_drewN ?_ _ | refine blk_drew ?_ | refine blk_alloc ?_ _)); exact BK282.out) hb); replace HB := Am (below_step (by repeat (first | (with_reducible first | exact HB.out | apply below_alloc | apply pw_below_drewN | apply below_drew1 | refine below_set ?_ GE282.out) | exact HB.out)) hb); (try clear hb); (try clear hb2); (try clear hk); (try clear hi); (try clear ho0); obtain ⟨hcz17_0, hcz17_1, hfz17_0, hfz17_1⟩ := cb2 BK282.out)))
    go_loopg [29] k (fun kq v29 w' => ∃ (x29_1 : Int), v29 = .int .i64 x29_1 ∧ Aside0 (qo.l0 kq l0_0 (l0_0.length : Int) x29_1 l0_0 l0_1 = some r) ∧ Aside0 (kq ≤ k) ∧ Aside0 (w'.heap[gb282]? = some (.cells #[(.slice A0_0 l0_0.length c0_0), (.slice A0_1 l0_1.length c0_1)] 28 (0, 0))) ∧ Aside0 (Below w.heap.size w w'))
    case atStart => exact ⟨(0), (by rfl), H', ⟨Nat.le_refl _⟩, ⟨by exact BK282.out⟩, ⟨HB.out⟩⟩
    case round =>
     clear H'
     try clear c3b0
     try clear c3b1
     try clear hcz13_0
     try clear hcz13_1
     try clear hcz15_0
     try clear hcz15_1
     try clear hcz17_0
     try clear hcz17_1
     try clear hfz13_0
     try clear hfz13_1
     try clear hfz15_0
     try clear hfz15_1
     try clear hfz17_0
     try clear hfz17_1
     obtain ⟨x29_1, rfl, HA, HK1, BK282, HB⟩ := hrel
     cases gk with
     | zero => exact absurd HA.out (by simp [qo.l0])
     | succ k1 =>
      have H := HA.out
      clear HA
      simp only [qo.l0] at H
      by_cases c18 : x29_1 < (l0_0.length : Int)
      ·rw [if_pos c18] at H
       have c18b0 : decide (x29_1 < (l0_0.length : Int)) = true := decide_eq_true c18
       clear c18
       replace H := ino H
       obtain ⟨c19, H⟩ := H
       have c19b0 : decide (0 ≤ x29_1) = true := decide_eq_true c19
       clear c19
       replace H := ino H
       obtain ⟨c20, H⟩ := H
       have c20b0 : decide (x29_1 < (l0_0.length : Int)) = true := decide_eq_true c20
       clear c20
       have H' := Am H
       clear H
       have p289 : 0 ≤ (x29_1 : Int) := od (by assumption)
       have q289 : x29_1 < (l0_0.length : Int) := od (by assumption)
       obtain ⟨ad289, A289_3, c289_3, A289_4, c289_4, e289, hx289_0, hx289_1, hx289_2, hx289_3, hx289_4, hl289_3, hi289_3, hl289_4, hi289_4⟩ := at_T86 HR0_0.out x29_1 p289 q289
       cases e289
       replace hx289_0 := pcb HB.out hx289_0
       replace hx289_1 := pcb HB.out hx289_1
       replace hx289_2 := pcb HB.out hx289_2
       replace hx289_3 := pcb HB.out hx289_3
       replace hx289_4 := pcb HB.out hx289_4
       have HR289_3 := Am hi289_3
       have HC289_3 := Am hl289_3
       clear hi289_3 hl289_3
       have HR289_4 := Am hi289_4
       have HC289_4 := Am hl289_4
       clear hi289_4 hl289_4
       replace p289 := eq_true p289
       replace q289 := eq_true q289
       go_wp2_with (((with_reducible refine gate_dst (N := 7) rfl ?_); refine box_event ?hg (N := 7) ?hd (cs := #[.int .i64 0, .int .i64 0, .int .i64 0, .slice none 0 0, .slice none 0 0]) (t := 86) ?hr ?_; (case hd => rfl); (case hg => rfl); (case hr => (go_simp; done)); intro gb290 hg w21 hbox hb; have BK290 := Am hbox; have GW290 := Am ((nge hg HB.out)); have GE290 := Am ((nge hg HB.out)); replace HB := Am (below_step HB.out hb); have NB282_290 := Am ((nlt hg (g := gb282) (o := .cells #[.slice (some ad289) l0_0.length c0_0, .slice A0_1 l0_1.length c0_1] 28 (0, 0)) BK282.out)); have NB290_282 := Am ((ngt hg (g := gb282) (o := .cells #[.slice (some ad289) l0_0.length c0_0, .slice A0_1 l0_1.length c0_1] 28 (0, 0)) BK282.out)); replace BK282 := Am (blk_below BK282.out hb); clear hb hbox hg; have hnb22 := NB290_282.out; have hnc22 := NB282_290.out; obtain ⟨hcz23_0, hcz23_1, hcz23_2, hcz23_3, hcz23_4, hfz23_0, hfz23_1, hfz23_2, hfz23_3, hfz23_4⟩ := cb5 BK290.out))
       repeat (go_quiet (first | ((with_reducible refine gate_dst (N := 7) rfl ?_); refine box_event ?hg (N := 7) ?hd (cs := #[.int .i64 0, .int .i64 0, .int .i64 0, .slice none 0 0, .slice none 0 0]) (t := 86) ?hr ?_; (case hd => rfl); (case hg => rfl); (case hr => first | (go_simp; done) | (go_simp; rfl)); intro gb290 hg w21 hbox hb; have BK290 := Am hbox; have GW290 := Am ((nge hg (by repeat (first | (with_reducible first | exact HB.out | apply below_alloc | apply pw_below_drewN | apply below_drew1 | refine below_set ?_ GE282.out) | exact HB.out)))); have GE290 := Am ((nge hg (by repeat (first | (with_reducible first | exact HB.out | apply below_alloc | apply pw_below_drewN | apply below_drew1 | refine below_set ?_ GE282.out) | exact HB.out)))); replace HB := Am (below_step (by repeat (first | (with_reducible first | exact HB.out | apply below_alloc | apply pw_below_drewN | apply below_drew1 | refine below_set ?_ GE282.out) | exact HB.out)) hb); have NB282_290 := Am ((nlt hg (g := gb282) (o := .cells #[.slice (some ad289) l0_0.length c0_0, .slice A0_1 l0_1.length c0_1] 28 (0, 0)) (by (with_reducible repeat (first | refine blk_drewN ?_ _ | refine blk_drew ?_ | refine blk_alloc ?_ _)); exact BK282.out))); have NB290_282 := Am ((ngt hg (g := gb282) (o := .cells #[.slice (some ad289) l0_0.length c0_0, .slice A0_1 l0_1.length c0_1] 28 (0, 0)) (by (with_reducible repeat (first | refine blk_drewN ?_ _ | refine blk_drew ?_ | refine blk_alloc ?_ _)); exact BK282.out))); replace BK282 := Am (blk_below (by (with_reducible repeat (first | refine blk_drewN ?_ _ | refine blk_drew ?_ | refine blk_alloc ?_ _)); exact BK282.out) hb); clear hb hbox hg; have hnb22 := NB290_282.out; have hnc22 := NB282_290.out; obtain ⟨hcz23_0, hcz23_1, hcz23_2, hcz23_3, hcz23_4, hfz23_0, hfz23_1, hfz23_2, hfz23_3, hfz23_4⟩ := cb5 BK290.out)))
       go_loopg [36] k1 (fun kq v36 w' => ∃ (x36_2 : Int), v36 = .int .i64 x36_2 ∧ Aside0 (qo.l1 kq l0_0 (l0_0.length : Int) x29_1 ((rd_T86 l0_0 x29_1).f4) (((rd_T86 l0_0 x29_1).f4).length : Int) x36_2 l0_0 l0_1 = some r) ∧ Aside0 (kq ≤ k1) ∧ Aside0 (w'.heap[gb282]? = some (.cells #[(.slice (some ad289) l0_0.length c0_0), (.slice A0_1 l0_1.length c0_1)] 28 (0, 0))) ∧ Aside0 (w'.heap[gb290]? = some (.cells #[.int .i64 ((rd_T86 l0_0 x29_1).f0), .int .i64 ((rd_T86 l0_0 x29_1).f1), .int .i64 ((rd_T86 l0_0 x29_1).f2), (.slice A289_3 ((rd_T86 l0_0 x29_1).f3).length c289_3), (.slice A289_4 ((rd_T86 l0_0 x29_1).f4).length c289_4)] 86 (0, 0))) ∧ Aside0 (Below w.heap.size w w'))
       case atStart => exact ⟨(0), (by rfl), H', ⟨Nat.le_refl _⟩, ⟨by refine blk_far ?_ NB282_290.out _; refine blk_far ?_ NB282_290.out _; refine blk_far ?_ NB282_290.out _; refine blk_far ?_ NB282_290.out _; refine blk_far ?_ NB282_290.out _; exact BK282.out⟩, ⟨by refine blk_put (cs := #[.int .i64 ((rd_T86 l0_0 x29_1).f0), .int .i64 ((rd_T86 l0_0 x29_1).f1), .int .i64 ((rd_T86 l0_0 x29_1).f2), .slice A289_3 ((rd_T86 l0_0 x29_1).f3).length c289_3, .slice none 0 0]) ?_ 4 _ rfl; refine blk_put (cs := #[.int .i64 ((rd_T86 l0_0 x29_1).f0), .int .i64 ((rd_T86 l0_0 x29_1).f1), .int .i64 ((rd_T86 l0_0 x29_1).f2), .slice none 0 0, .slice none 0 0]) ?_ 3 _ rfl; refine blk_put (cs := #[.int .i64 ((rd_T86 l0_0 x29_1).f0), .int .i64 ((rd_T86 l0_0 x29_1).f1), .int .i64 0, .slice none 0 0, .slice none 0 0]) ?_ 2 _ rfl; refine blk_put (cs := #[.int .i64 ((rd_T86 l0_0 x29_1).f0), .int .i64 0, .int .i64 0, .slice none 0 0, .slice none 0 0]) ?_ 1 _ rfl; refine blk_put (cs := #[.int .i64 0, .int .i64 0, .int .i64 0, .slice none 0 0, .slice none 0 0]) ?_ 0 _ rfl; exact BK290.out⟩, ⟨by repeat ((with_reducible first | exact HB.out | refine below_set ?_ GE290.out))⟩⟩
       case round =>
        clear H'
        try clear c18b0
        try clear c19b0
        try clear c20b0
        try clear hcz23_0
        try clear hcz23_1
        try clear hcz23_2
        try clear hcz23_3
        try clear hcz23_4
        try clear hfz23_0
        try clear hfz23_1
        try clear hfz23_2
        try clear hfz23_3
        try clear hfz23_4
        try clear hx289_0
        try clear hx289_1
        try clear hx289_2
        try clear hx289_3
        try clear hx289_4
        try clear p289
        try clear q289
        obtain ⟨x36_2, rfl, HA, HK2, BK282, BK290, HB⟩ := hrel
        cases gk with
        | zero => exact absurd HA.out (by simp [qo.l1])
        | succ k2 =>
         have H := HA.out
         clear HA
         simp only [qo.l1] at H
         by_cases c24 : x36_2 < (((rd_T86 l0_0 x29_1).f4).length : Int)
         ·rw [if_pos c24] at H
          have c24b0 : decide (x36_2 < (((rd_T86 l0_0 x29_1).f4).length : Int)) = true := decide_eq_true c24
          clear c24
          replace H := ino H
          obtain ⟨c25, H⟩ := H
          have c25b0 : decide (0 ≤ x36_2) = true := decide_eq_true c25
          clear c25
          replace H := ino H
          obtain ⟨c26, H⟩ := H
          have c26b0 : decide (x36_2 < (((rd_T86 l0_0 x29_1).f4).length : Int)) = true := decide_eq_true c26
          clear c26
          replace H := zbs H
          obtain ⟨t293, A27, H⟩ := H
          by_cases c28 : ((rd_T143 ((rd_T86 l0_0 x29_1).f4) x36_2).f1) ≥ t293
          ·rw [if_pos c28] at H
           have c28b0 : decide (t293 ≤ ((rd_T143 ((rd_T86 l0_0 x29_1).f4) x36_2).f1)) = true := decide_eq_true c28
           clear c28
           obtain rfl := Option.some.inj H
           have p291 : 0 ≤ (x36_2 : Int) := od (by assumption)
           have q291 : x36_2 < (((rd_T86 l0_0 x29_1).f4).length : Int) := od (by assumption)
           obtain ⟨ad291, e291, hx291_0, hx291_1⟩ := at_T143 HR289_4.out x36_2 p291 q291
           cases e291
           replace hx291_0 := pcb HB.out hx291_0
           replace hx291_1 := pcb HB.out hx291_1
           replace p291 := eq_true p291
           replace q291 := eq_true q291
           go_wp2_with (((with_reducible refine gate_dst (N := 9) rfl ?_); refine box_event ?hg (N := 9) ?hd (cs := #[.string (⟨#[]⟩ : ByteArray), .int .i64 0]) (t := 143) ?hr ?_; (case hd => rfl); (case hg => rfl); (case hr => (go_simp; done)); intro gb292 hg w29 hbox hb; have BK292 := Am hbox; have GW292 := Am ((nge hg HB.out)); have GE292 := Am ((nge hg HB.out)); replace HB := Am (below_step HB.out hb); have NB282_292 := Am ((nlt hg (g := gb282) (o := .cells #[.slice (some ad289) l0_0.length c0_0, .slice A0_1 l0_1.length c0_1] 28 (0, 0)) BK282.out)); have NB292_282 := Am ((ngt hg (g := gb282) (o := .cells #[.slice (some ad289) l0_0.length c0_0, .slice A0_1 l0_1.length c0_1] 28 (0, 0)) BK282.out)); replace BK282 := Am (blk_below BK282.out hb); have NB290_292 := Am ((nlt hg (g := gb290) (o := .cells #[.int .i64 ((rd_T86 l0_0 x29_1).f0), .int .i64 ((rd_T86 l0_0 x29_1).f1), .int .i64 ((rd_T86 l0_0 x29_1).f2), .slice A289_3 ((rd_T86 l0_0 x29_1).f3).length c289_3, .slice (some ad291) ((rd_T86 l0_0 x29_1).f4).length c289_4] 86 (0, 0)) BK290.out)); have NB292_290 := Am ((ngt hg (g := gb290) (o := .cells #[.int .i64 ((rd_T86 l0_0 x29_1).f0), .int .i64 ((rd_T86 l0_0 x29_1).f1), .int .i64 ((rd_T86 l0_0 x29_1).f2), .slice A289_3 ((rd_T86 l0_0 x29_1).f3).length c289_3, .slice (some ad291) ((rd_T86 l0_0 x29_1).f4).length c289_4] 86 (0, 0)) BK290.out)); replace BK290 := Am (blk_below BK290.out hb); clear hb hbox hg; have hnb30 := NB292_282.out; have hnc30 := NB282_292.out; have hnb31 := NB292_290.out; have hnc31 := NB290_292.out; obtain ⟨hcz32_0, hcz32_1, hfz32_0, hfz32_1⟩ := cb2 BK292.out; have hnb33 := NB282_290.out; have hnc33 := NB290_282.out; obtain ⟨hcz34_0, hcz34_1, hfz34_0, hfz34_1⟩ := cb2 BK282.out))
           repeat (go_quiet (first | ((with_reducible refine gate_dst (N := 9) rfl ?_); refine box_event ?hg (N := 9) ?hd (cs := #[.string (⟨#[]⟩ : ByteArray), .int .i64 0]) (t := 143) ?hr ?_; (case hd => rfl); (case hg => rfl); (case hr => first | (go_simp; done) | (go_simp; rfl)); intro gb292 hg w29 hbox hb; have BK292 := Am hbox; have GW292 := Am ((nge hg (by repeat (first | (with_reducible first | exact HB.out | apply below_alloc | apply pw_below_drewN | apply below_drew1 | refine below_set ?_ GE282.out | refine below_set ?_ GE290.out) | exact HB.out)))); have GE292 := Am ((nge hg (by repeat (first | (with_reducible first | exact HB.out | apply below_alloc | apply pw_below_drewN | apply below_drew1 | refine below_set ?_ GE282.out | refine below_set ?_ GE290.out) | exact HB.out)))); replace HB := Am (below_step (by repeat (first | (with_reducible first | exact HB.out | apply below_alloc | apply pw_below_drewN | apply below_drew1 | refine below_set ?_ GE282.out | refine below_set ?_ GE290.out) | exact HB.out)) hb); have NB282_292 := Am ((nlt hg (g := gb282) (o := .cells #[.slice (some ad289) l0_0.length c0_0, .slice A0_1 l0_1.length c0_1] 28 (0, 0)) (by (with_reducible repeat (first | refine blk_drewN ?_ _ | refine blk_drew ?_ | refine blk_alloc ?_ _)); exact BK282.out))); have NB292_282 := Am ((ngt hg (g := gb282) (o := .cells #[.slice (some ad289) l0_0.length c0_0, .slice A0_1 l0_1.length c0_1] 28 (0, 0)) (by (with_reducible repeat (first | refine blk_drewN ?_ _ | refine blk_drew ?_ | refine blk_alloc ?_ _)); exact BK282.out))); replace BK282 := Am (blk_below (by (with_reducible repeat (first | refine blk_drewN ?_ _ | refine blk_drew ?_ | refine blk_alloc ?_ _)); exact BK282.out) hb); have NB290_292 := Am ((nlt hg (g := gb290) (o := .cells #[.int .i64 ((rd_T86 l0_0 x29_1).f0), .int .i64 ((rd_T86 l0_0 x29_1).f1), .int .i64 ((rd_T86 l0_0 x29_1).f2), .slice A289_3 ((rd_T86 l0_0 x29_1).f3).length c289_3, .slice (some ad291) ((rd_T86 l0_0 x29_1).f4).length c289_4] 86 (0, 0)) (by (with_reducible repeat (first | refine blk_drewN ?_ _ | refine blk_drew ?_ | refine blk_alloc ?_ _)); exact BK290.out))); have NB292_290 := Am ((ngt hg (g := gb290) (o := .cells #[.int .i64 ((rd_T86 l0_0 x29_1).f0), .int .i64 ((rd_T86 l0_0 x29_1).f1), .int .i64 ((rd_T86 l0_0 x29_1).f2), .slice A289_3 ((rd_T86 l0_0 x29_1).f3).length c289_3, .slice (some ad291) ((rd_T86 l0_0 x29_1).f4).length c289_4] 86 (0, 0)) (by (with_reducible repeat (first | refine blk_drewN ?_ _ | refine blk_drew ?_ | refine blk_alloc ?_ _)); exact BK290.out))); replace BK290 := Am (blk_below (by (with_reducible repeat (first | refine blk_drewN ?_ _ | refine blk_drew ?_ | refine blk_alloc ?_ _)); exact BK290.out) hb); clear hb hbox hg; have hnb30 := NB292_282.out; have hnc30 := NB282_292.out; have hnb31 := NB292_290.out; have hnc31 := NB290_292.out; obtain ⟨hcz32_0, hcz32_1, hfz32_0, hfz32_1⟩ := cb2 BK292.out; have hnb33 := NB282_290.out; have hnc33 := NB290_282.out; obtain ⟨hcz34_0, hcz34_1, hfz34_0, hfz34_1⟩ := cb2 BK282.out) | (go_at_call 132; (with_reducible refine (q4.calls _ _ l0_0 t293 _ ?side1 ?side2 A27.out).mono ?_); (case side1 => exact Kd.C_below HR0_0.out (by repeat (first | (with_reducible first | exact HB.out | apply below_alloc | apply pw_below_drewN | apply below_drew1 | refine below_set ?_ GE282.out | refine below_set ?_ GE290.out | refine below_set ?_ GE292.out) | exact HB.out))); (case side2 => exact HC0_0.out); rintro e w' ⟨rfl, ⟨nd, rfl⟩⟩; (try first | exact ⟨rfl, _, World.drewN_drewN _ _ _⟩ | exact ⟨rfl, _, Eq.trans (World.drewN_drewN _ _ _) (congrArg (World.drewN _) (Nat.add_assoc _ _ _))⟩))); try go_wp2_with (fail))
           go_ret
           exact ⟨by rfl, by repeat ((with_reducible first | exact HB.out | apply pw_below_drewN | refine below_set ?_ GE292.out))⟩
          ·rw [if_neg c28] at H
           have c28b0 : decide (t293 ≤ ((rd_T143 ((rd_T86 l0_0 x29_1).f4) x36_2).f1)) = false := decide_eq_false c28
           clear c28
           replace H := ino H
           obtain ⟨c35, H⟩ := H
           have c35b0 : decide (0 ≤ ((rd_T143 ((rd_T86 l0_0 x29_1).f4) x36_2).f1)) = true := decide_eq_true c35
           clear c35
           replace H := ino H
           obtain ⟨c36, H⟩ := H
           have c36b0 : decide (((rd_T143 ((rd_T86 l0_0 x29_1).f4) x36_2).f1) < (l0_0.length : Int)) = true := decide_eq_true c36
           clear c36
           by_cases c37 : ((rd_T86 l0_0 ((rd_T143 ((rd_T86 l0_0 x29_1).f4) x36_2).f1)).f0) = 0
           ·rw [if_pos c37] at H
            have c37b0 : (((rd_T86 l0_0 ((rd_T143 ((rd_T86 l0_0 x29_1).f4) x36_2).f1)).f0) == 0) = true := beq_iff_eq.mpr c37
            have c37b1 : (((rd_T86 l0_0 ((rd_T143 ((rd_T86 l0_0 x29_1).f4) x36_2).f1)).f0) != 0) = false := bne_eq_false_iff_eq.mpr c37
            clear c37
            obtain rfl := Option.some.inj H
            have p291 : 0 ≤ (x36_2 : Int) := od (by assumption)
            have q291 : x36_2 < (((rd_T86 l0_0 x29_1).f4).length : Int) := od (by assumption)
            obtain ⟨ad291, e291, hx291_0, hx291_1⟩ := at_T143 HR289_4.out x36_2 p291 q291
            cases e291
            replace hx291_0 := pcb HB.out hx291_0
            replace hx291_1 := pcb HB.out hx291_1
            replace p291 := eq_true p291
            replace q291 := eq_true q291
            go_wp2_with (((with_reducible refine gate_dst (N := 9) rfl ?_); refine box_event ?hg (N := 9) ?hd (cs := #[.string (⟨#[]⟩ : ByteArray), .int .i64 0]) (t := 143) ?hr ?_; (case hd => rfl); (case hg => rfl); (case hr => (go_simp; done)); intro gb292 hg w38 hbox hb; have BK292 := Am hbox; have GW292 := Am ((nge hg HB.out)); have GE292 := Am ((nge hg HB.out)); replace HB := Am (below_step HB.out hb); have NB282_292 := Am ((nlt hg (g := gb282) (o := .cells #[.slice (some ad289) l0_0.length c0_0, .slice A0_1 l0_1.length c0_1] 28 (0, 0)) BK282.out)); have NB292_282 := Am ((ngt hg (g := gb282) (o := .cells #[.slice (some ad289) l0_0.length c0_0, .slice A0_1 l0_1.length c0_1] 28 (0, 0)) BK282.out)); replace BK282 := Am (blk_below BK282.out hb); have NB290_292 := Am ((nlt hg (g := gb290) (o := .cells #[.int .i64 ((rd_T86 l0_0 x29_1).f0), .int .i64 ((rd_T86 l0_0 x29_1).f1), .int .i64 ((rd_T86 l0_0 x29_1).f2), .slice A289_3 ((rd_T86 l0_0 x29_1).f3).length c289_3, .slice (some ad291) ((rd_T86 l0_0 x29_1).f4).length c289_4] 86 (0, 0)) BK290.out)); have NB292_290 := Am ((ngt hg (g := gb290) (o := .cells #[.int .i64 ((rd_T86 l0_0 x29_1).f0), .int .i64 ((rd_T86 l0_0 x29_1).f1), .int .i64 ((rd_T86 l0_0 x29_1).f2), .slice A289_3 ((rd_T86 l0_0 x29_1).f3).length c289_3, .slice (some ad291) ((rd_T86 l0_0 x29_1).f4).length c289_4] 86 (0, 0)) BK290.out)); replace BK290 := Am (blk_below BK290.out hb); clear hb hbox hg; have hnb39 := NB292_282.out; have hnc39 := NB282_292.out; have hnb40 := NB292_290.out; have hnc40 := NB290_292.out; obtain ⟨hcz41_0, hcz41_1, hfz41_0, hfz41_1⟩ := cb2 BK292.out; have hnb42 := NB282_290.out; have hnc42 := NB290_282.out; obtain ⟨hcz43_0, hcz43_1, hfz43_0, hfz43_1⟩ := cb2 BK282.out))
            repeat (go_quiet (first | ((with_reducible refine gate_dst (N := 9) rfl ?_); refine box_event ?hg (N := 9) ?hd (cs := #[.string (⟨#[]⟩ : ByteArray), .int .i64 0]) (t := 143) ?hr ?_; (case hd => rfl); (case hg => rfl); (case hr => first | (go_simp; done) | (go_simp; rfl)); intro gb292 hg w38 hbox hb; have BK292 := Am hbox; have GW292 := Am ((nge hg (by repeat (first | (with_reducible first | exact HB.out | apply below_alloc | apply pw_below_drewN | apply below_drew1 | refine below_set ?_ GE282.out | refine below_set ?_ GE290.out) | exact HB.out)))); have GE292 := Am ((nge hg (by repeat (first | (with_reducible first | exact HB.out | apply below_alloc | apply pw_below_drewN | apply below_drew1 | refine below_set ?_ GE282.out | refine below_set ?_ GE290.out) | exact HB.out)))); replace HB := Am (below_step (by repeat (first | (with_reducible first | exact HB.out | apply below_alloc | apply pw_below_drewN | apply below_drew1 | refine below_set ?_ GE282.out | refine below_set ?_ GE290.out) | exact HB.out)) hb); have NB282_292 := Am ((nlt hg (g := gb282) (o := .cells #[.slice (some ad289) l0_0.length c0_0, .slice A0_1 l0_1.length c0_1] 28 (0, 0)) (by (with_reducible repeat (first | refine blk_drewN ?_ _ | refine blk_drew ?_ | refine blk_alloc ?_ _)); exact BK282.out))); have NB292_282 := Am ((ngt hg (g := gb282) (o := .cells #[.slice (some ad289) l0_0.length c0_0, .slice A0_1 l0_1.length c0_1] 28 (0, 0)) (by (with_reducible repeat (first | refine blk_drewN ?_ _ | refine blk_drew ?_ | refine blk_alloc ?_ _)); exact BK282.out))); replace BK282 := Am (blk_below (by (with_reducible repeat (first | refine blk_drewN ?_ _ | refine blk_drew ?_ | refine blk_alloc ?_ _)); exact BK282.out) hb); have NB290_292 := Am ((nlt hg (g := gb290) (o := .cells #[.int .i64 ((rd_T86 l0_0 x29_1).f0), .int .i64 ((rd_T86 l0_0 x29_1).f1), .int .i64 ((rd_T86 l0_0 x29_1).f2), .slice A289_3 ((rd_T86 l0_0 x29_1).f3).length c289_3, .slice (some ad291) ((rd_T86 l0_0 x29_1).f4).length c289_4] 86 (0, 0)) (by (with_reducible repeat (first | refine blk_drewN ?_ _ | refine blk_drew ?_ | refine blk_alloc ?_ _)); exact BK290.out))); have NB292_290 := Am ((ngt hg (g := gb290) (o := .cells #[.int .i64 ((rd_T86 l0_0 x29_1).f0), .int .i64 ((rd_T86 l0_0 x29_1).f1), .int .i64 ((rd_T86 l0_0 x29_1).f2), .slice A289_3 ((rd_T86 l0_0 x29_1).f3).length c289_3, .slice (some ad291) ((rd_T86 l0_0 x29_1).f4).length c289_4] 86 (0, 0)) (by (with_reducible repeat (first | refine blk_drewN ?_ _ | refine blk_drew ?_ | refine blk_alloc ?_ _)); exact BK290.out))); replace BK290 := Am (blk_below (by (with_reducible repeat (first | refine blk_drewN ?_ _ | refine blk_drew ?_ | refine blk_alloc ?_ _)); exact BK290.out) hb); clear hb hbox hg; have hnb39 := NB292_282.out; have hnc39 := NB282_292.out; have hnb40 := NB292_290.out; have hnc40 := NB290_292.out; obtain ⟨hcz41_0, hcz41_1, hfz41_0, hfz41_1⟩ := cb2 BK292.out; have hnb42 := NB282_290.out; have hnc42 := NB290_282.out; obtain ⟨hcz43_0, hcz43_1, hfz43_0, hfz43_1⟩ := cb2 BK282.out) | (go_at_call 132; (with_reducible refine (q4.calls _ _ l0_0 t293 _ ?side1 ?side2 A27.out).mono ?_); (case side1 => exact Kd.C_below HR0_0.out (by repeat (first | (with_reducible first | exact HB.out | apply below_alloc | apply pw_below_drewN | apply below_drew1 | refine below_set ?_ GE282.out | refine below_set ?_ GE290.out | refine below_set ?_ GE292.out) | exact HB.out))); (case side2 => exact HC0_0.out); rintro e w' ⟨rfl, ⟨nd, rfl⟩⟩; (try first | exact ⟨rfl, _, World.drewN_drewN _ _ _⟩ | exact ⟨rfl, _, Eq.trans (World.drewN_drewN _ _ _) (congrArg (World.drewN _) (Nat.add_assoc _ _ _))⟩); have p294 : 0 ≤ (((rd_T143 ((rd_T86 l0_0 x29_1).f4) x36_2).f1) : Int) := of_decide_eq_true (by first | (with_reducible assumption) | assumption); have q294 : ((rd_T143 ((rd_T86 l0_0 x29_1).f4) x36_2).f1) < (l0_0.length : Int) := of_decide_eq_true (by first | (with_reducible assumption) | assumption); obtain ⟨ad294, A294_3, c294_3, A294_4, c294_4, e294, hx294_0, hx294_1, hx294_2, hx294_3, hx294_4, hl294_3, hi294_3, hl294_4, hi294_4⟩ := at_T86 HR0_0.out ((rd_T143 ((rd_T86 l0_0 x29_1).f4) x36_2).f1) p294 q294; obtain rfl : ad289 = ad294 := (by injection e294); have hn294_0 : ad289.block ≠ gb292 := Nat.ne_of_lt (Nat.lt_of_lt_of_le (by have := World.block_lt_of_cell? _ _ hx294_0; first | rwa [add_block] at this | exact this) GW292.out); have hn294_1 : ad289.block ≠ gb292 := Nat.ne_of_lt (Nat.lt_of_lt_of_le (by have := World.block_lt_of_cell? _ _ hx294_0; first | rwa [add_block] at this | exact this) GW292.out); replace hx294_0 := pcb HB.out hx294_0; replace hx294_1 := pcb HB.out hx294_1; replace hx294_2 := pcb HB.out hx294_2; replace hx294_3 := pcb HB.out hx294_3; replace hx294_4 := pcb HB.out hx294_4; have HR294_3 := Am hi294_3; have HC294_3 := Am hl294_3; clear hi294_3 hl294_3; have HR294_4 := Am hi294_4; have HC294_4 := Am hl294_4; clear hi294_4 hl294_4; replace hx294_0 := (cell_far (p := ⟨gb292, 0, none⟩) (by first | (rw [add_block]; exact hn294_0) | (show (Addr.add _ _).block ≠ _; rw [add_block]; exact hn294_0) | exact hn294_0) (.string ((rd_T143 ((rd_T86 l0_0 x29_1).f4) x36_2).f0))).trans hx294_0; replace hx294_1 := (cell_far (p := ⟨gb292, 0, none⟩) (by first | (rw [add_block]; exact hn294_0) | (show (Addr.add _ _).block ≠ _; rw [add_block]; exact hn294_0) | exact hn294_0) (.string ((rd_T143 ((rd_T86 l0_0 x29_1).f4) x36_2).f0))).trans hx294_1; replace hx294_2 := (cell_far (p := ⟨gb292, 0, none⟩) (by first | (rw [add_block]; exact hn294_0) | (show (Addr.add _ _).block ≠ _; rw [add_block]; exact hn294_0) | exact hn294_0) (.string ((rd_T143 ((rd_T86 l0_0 x29_1).f4) x36_2).f0))).trans hx294_2; replace hx294_3 := (cell_far (p := ⟨gb292, 0, none⟩) (by first | (rw [add_block]; exact hn294_0) | (show (Addr.add _ _).block ≠ _; rw [add_block]; exact hn294_0) | exact hn294_0) (.string ((rd_T143 ((rd_T86 l0_0 x29_1).f4) x36_2).f0))).trans hx294_3; replace hx294_4 := (cell_far (p := ⟨gb292, 0, none⟩) (by first | (rw [add_block]; exact hn294_0) | (show (Addr.add _ _).block ≠ _; rw [add_block]; exact hn294_0) | exact hn294_0) (.string ((rd_T143 ((rd_T86 l0_0 x29_1).f4) x36_2).f0))).trans hx294_4; replace hx294_0 := (cell_far (p := ⟨gb292, 1, none⟩) (by first | (rw [add_block]; exact hn294_1) | (show (Addr.add _ _).block ≠ _; rw [add_block]; exact hn294_1) | exact hn294_1) (.int .i64 ((rd_T143 ((rd_T86 l0_0 x29_1).f4) x36_2).f1))).trans hx294_0; replace hx294_1 := (cell_far (p := ⟨gb292, 1, none⟩) (by first | (rw [add_block]; exact hn294_1) | (show (Addr.add _ _).block ≠ _; rw [add_block]; exact hn294_1) | exact hn294_1) (.int .i64 ((rd_T143 ((rd_T86 l0_0 x29_1).f4) x36_2).f1))).trans hx294_1; replace hx294_2 := (cell_far (p := ⟨gb292, 1, none⟩) (by first | (rw [add_block]; exact hn294_1) | (show (Addr.add _ _).block ≠ _; rw [add_block]; exact hn294_1) | exact hn294_1) (.int .i64 ((rd_T143 ((rd_T86 l0_0 x29_1).f4) x36_2).f1))).trans hx294_2; replace hx294_3 := (cell_far (p := ⟨gb292, 1, none⟩) (by first | (rw [add_block]; exact hn294_1) | (show (Addr.add _ _).block ≠ _; rw [add_block]; exact hn294_1) | exact hn294_1) (.int .i64 ((rd_T143 ((rd_T86 l0_0 x29_1).f4) x36_2).f1))).trans hx294_3; replace hx294_4 := (cell_far (p := ⟨gb292, 1, none⟩) (by first | (rw [add_block]; exact hn294_1) | (show (Addr.add _ _).block ≠ _; rw [add_block]; exact hn294_1) | exact hn294_1) (.int .i64 ((rd_T143 ((rd_T86 l0_0 x29_1).f4) x36_2).f1))).trans hx294_4; (try have hy294_0 := fun (n_ : Nat) => (show ((((w38.drewN n_).setCell ⟨gb292, 0, none⟩ (.string ((rd_T143 ((rd_T86 l0_0 x29_1).f4) x36_2).f0))).setCell ⟨gb292, 1, none⟩ (.int .i64 ((rd_T143 ((rd_T86 l0_0 x29_1).f4) x36_2).f1)))).cell? _ = some _ from hx294_0)); (try have hy294_1 := fun (n_ : Nat) => (show ((((w38.drewN n_).setCell ⟨gb292, 0, none⟩ (.string ((rd_T143 ((rd_T86 l0_0 x29_1).f4) x36_2).f0))).setCell ⟨gb292, 1, none⟩ (.int .i64 ((rd_T143 ((rd_T86 l0_0 x29_1).f4) x36_2).f1)))).cell? _ = some _ from hx294_1)); (try have hy294_2 := fun (n_ : Nat) => (show ((((w38.drewN n_).setCell ⟨gb292, 0, none⟩ (.string ((rd_T143 ((rd_T86 l0_0 x29_1).f4) x36_2).f0))).setCell ⟨gb292, 1, none⟩ (.int .i64 ((rd_T143 ((rd_T86 l0_0 x29_1).f4) x36_2).f1)))).cell? _ = some _ from hx294_2)); (try have hy294_3 := fun (n_ : Nat) => (show ((((w38.drewN n_).setCell ⟨gb292, 0, none⟩ (.string ((rd_T143 ((rd_T86 l0_0 x29_1).f4) x36_2).f0))).setCell ⟨gb292, 1, none⟩ (.int .i64 ((rd_T143 ((rd_T86 l0_0 x29_1).f4) x36_2).f1)))).cell? _ = some _ from hx294_3)); (try have hy294_4 := fun (n_ : Nat) => (show ((((w38.drewN n_).setCell ⟨gb292, 0, none⟩ (.string ((rd_T143 ((rd_T86 l0_0 x29_1).f4) x36_2).f0))).setCell ⟨gb292, 1, none⟩ (.int .i64 ((rd_T143 ((rd_T86 l0_0 x29_1).f4) x36_2).f1)))).cell? _ = some _ from hx294_4)); clear hn294_0; clear hn294_1; replace p294 := eq_true p294; replace q294 := eq_true q294)); try go_wp2_with (fail))
            go_ret
            exact ⟨by rfl, by repeat ((with_reducible first | exact HB.out | apply pw_below_drewN | refine below_set ?_ GE292.out))⟩
           ·rw [if_neg c37] at H
            have c37b0 : (((rd_T86 l0_0 ((rd_T143 ((rd_T86 l0_0 x29_1).f4) x36_2).f1)).f0) == 0) = false := beq_eq_false_iff_ne.mpr c37
            have c37b1 : (((rd_T86 l0_0 ((rd_T143 ((rd_T86 l0_0 x29_1).f4) x36_2).f1)).f0) != 0) = true := bne_iff_ne.mpr c37
            have H' := Am H
            clear H
            have p291 : 0 ≤ (x36_2 : Int) := od (by assumption)
            have q291 : x36_2 < (((rd_T86 l0_0 x29_1).f4).length : Int) := od (by assumption)
            obtain ⟨ad291, e291, hx291_0, hx291_1⟩ := at_T143 HR289_4.out x36_2 p291 q291
            cases e291
            replace hx291_0 := pcb HB.out hx291_0
            replace hx291_1 := pcb HB.out hx291_1
            replace p291 := eq_true p291
            replace q291 := eq_true q291
            go_wp2_with (((with_reducible refine gate_dst (N := 9) rfl ?_); refine box_event ?hg (N := 9) ?hd (cs := #[.string (⟨#[]⟩ : ByteArray), .int .i64 0]) (t := 143) ?hr ?_; (case hd => rfl); (case hg => rfl); (case hr => (go_simp; done)); intro gb292 hg w44 hbox hb; have BK292 := Am hbox; have GW292 := Am ((nge hg HB.out)); have GE292 := Am ((nge hg HB.out)); replace HB := Am (below_step HB.out hb); have NB282_292 := Am ((nlt hg (g := gb282) (o := .cells #[.slice (some ad289) l0_0.length c0_0, .slice A0_1 l0_1.length c0_1] 28 (0, 0)) BK282.out)); have NB292_282 := Am ((ngt hg (g := gb282) (o := .cells #[.slice (some ad289) l0_0.length c0_0, .slice A0_1 l0_1.length c0_1] 28 (0, 0)) BK282.out)); replace BK282 := Am (blk_below BK282.out hb); have NB290_292 := Am ((nlt hg (g := gb290) (o := .cells #[.int .i64 ((rd_T86 l0_0 x29_1).f0), .int .i64 ((rd_T86 l0_0 x29_1).f1), .int .i64 ((rd_T86 l0_0 x29_1).f2), .slice A289_3 ((rd_T86 l0_0 x29_1).f3).length c289_3, .slice (some ad291) ((rd_T86 l0_0 x29_1).f4).length c289_4] 86 (0, 0)) BK290.out)); have NB292_290 := Am ((ngt hg (g := gb290) (o := .cells #[.int .i64 ((rd_T86 l0_0 x29_1).f0), .int .i64 ((rd_T86 l0_0 x29_1).f1), .int .i64 ((rd_T86 l0_0 x29_1).f2), .slice A289_3 ((rd_T86 l0_0 x29_1).f3).length c289_3, .slice (some ad291) ((rd_T86 l0_0 x29_1).f4).length c289_4] 86 (0, 0)) BK290.out)); replace BK290 := Am (blk_below BK290.out hb); clear hb hbox hg; have hnb45 := NB292_282.out; have hnc45 := NB282_292.out; have hnb46 := NB292_290.out; have hnc46 := NB290_292.out; obtain ⟨hcz47_0, hcz47_1, hfz47_0, hfz47_1⟩ := cb2 BK292.out; have hnb48 := NB282_290.out; have hnc48 := NB290_282.out; obtain ⟨hcz49_0, hcz49_1, hfz49_0, hfz49_1⟩ := cb2 BK282.out))
            repeat (go_quiet (first | ((with_reducible refine gate_dst (N := 9) rfl ?_); refine box_event ?hg (N := 9) ?hd (cs := #[.string (⟨#[]⟩ : ByteArray), .int .i64 0]) (t := 143) ?hr ?_; (case hd => rfl); (case hg => rfl); (case hr => first | (go_simp; done) | (go_simp; rfl)); intro gb292 hg w44 hbox hb; have BK292 := Am hbox; have GW292 := Am ((nge hg (by repeat (first | (with_reducible first | exact HB.out | apply below_alloc | apply pw_below_drewN | apply below_drew1 | refine below_set ?_ GE282.out | refine below_set ?_ GE290.out) | exact HB.out)))); have GE292 := Am ((nge hg (by repeat (first | (with_reducible first | exact HB.out | apply below_alloc | apply pw_below_drewN | apply below_drew1 | refine below_set ?_ GE282.out | refine below_set ?_ GE290.out) | exact HB.out)))); replace HB := Am (below_step (by repeat (first | (with_reducible first | exact HB.out | apply below_alloc | apply pw_below_drewN | apply below_drew1 | refine below_set ?_ GE282.out | refine below_set ?_ GE290.out) | exact HB.out)) hb); have NB282_292 := Am ((nlt hg (g := gb282) (o := .cells #[.slice (some ad289) l0_0.length c0_0, .slice A0_1 l0_1.length c0_1] 28 (0, 0)) (by (with_reducible repeat (first | refine blk_drewN ?_ _ | refine blk_drew ?_ | refine blk_alloc ?_ _)); exact BK282.out))); have NB292_282 := Am ((ngt hg (g := gb282) (o := .cells #[.slice (some ad289) l0_0.length c0_0, .slice A0_1 l0_1.length c0_1] 28 (0, 0)) (by (with_reducible repeat (first | refine blk_drewN ?_ _ | refine blk_drew ?_ | refine blk_alloc ?_ _)); exact BK282.out))); replace BK282 := Am (blk_below (by (with_reducible repeat (first | refine blk_drewN ?_ _ | refine blk_drew ?_ | refine blk_alloc ?_ _)); exact BK282.out) hb); have NB290_292 := Am ((nlt hg (g := gb290) (o := .cells #[.int .i64 ((rd_T86 l0_0 x29_1).f0), .int .i64 ((rd_T86 l0_0 x29_1).f1), .int .i64 ((rd_T86 l0_0 x29_1).f2), .slice A289_3 ((rd_T86 l0_0 x29_1).f3).length c289_3, .slice (some ad291) ((rd_T86 l0_0 x29_1).f4).length c289_4] 86 (0, 0)) (by (with_reducible repeat (first | refine blk_drewN ?_ _ | refine blk_drew ?_ | refine blk_alloc ?_ _)); exact BK290.out))); have NB292_290 := Am ((ngt hg (g := gb290) (o := .cells #[.int .i64 ((rd_T86 l0_0 x29_1).f0), .int .i64 ((rd_T86 l0_0 x29_1).f1), .int .i64 ((rd_T86 l0_0 x29_1).f2), .slice A289_3 ((rd_T86 l0_0 x29_1).f3).length c289_3, .slice (some ad291) ((rd_T86 l0_0 x29_1).f4).length c289_4] 86 (0, 0)) (by (with_reducible repeat (first | refine blk_drewN ?_ _ | refine blk_drew ?_ | refine blk_alloc ?_ _)); exact BK290.out))); replace BK290 := Am (blk_below (by (with_reducible repeat (first | refine blk_drewN ?_ _ | refine blk_drew ?_ | refine blk_alloc ?_ _)); exact BK290.out) hb); clear hb hbox hg; have hnb45 := NB292_282.out; have hnc45 := NB282_292.out; have hnb46 := NB292_290.out; have hnc46 := NB290_292.out; obtain ⟨hcz47_0, hcz47_1, hfz47_0, hfz47_1⟩ := cb2 BK292.out; have hnb48 := NB282_290.out; have hnc48 := NB290_282.out; obtain ⟨hcz49_0, hcz49_1, hfz49_0, hfz49_1⟩ := cb2 BK282.out) | (go_at_call 132; (with_reducible refine (q4.calls _ _ l0_0 t293 _ ?side1 ?side2 A27.out).mono ?_); (case side1 => exact Kd.C_below HR0_0.out (by repeat (first | (with_reducible first | exact HB.out | apply below_alloc | apply pw_below_drewN | apply below_drew1 | refine below_set ?_ GE282.out | refine below_set ?_ GE290.out | refine below_set ?_ GE292.out) | exact HB.out))); (case side2 => exact HC0_0.out); rintro e w' ⟨rfl, ⟨nd, rfl⟩⟩; (try first | exact ⟨rfl, _, World.drewN_drewN _ _ _⟩ | exact ⟨rfl, _, Eq.trans (World.drewN_drewN _ _ _) (congrArg (World.drewN _) (Nat.add_assoc _ _ _))⟩); have p294 : 0 ≤ (((rd_T143 ((rd_T86 l0_0 x29_1).f4) x36_2).f1) : Int) := of_decide_eq_true (by first | (with_reducible assumption) | assumption); have q294 : ((rd_T143 ((rd_T86 l0_0 x29_1).f4) x36_2).f1) < (l0_0.length : Int) := of_decide_eq_true (by first | (with_reducible assumption) | assumption); obtain ⟨ad294, A294_3, c294_3, A294_4, c294_4, e294, hx294_0, hx294_1, hx294_2, hx294_3, hx294_4, hl294_3, hi294_3, hl294_4, hi294_4⟩ := at_T86 HR0_0.out ((rd_T143 ((rd_T86 l0_0 x29_1).f4) x36_2).f1) p294 q294; obtain rfl : ad289 = ad294 := (by injection e294); have hn294_0 : ad289.block ≠ gb292 := Nat.ne_of_lt (Nat.lt_of_lt_of_le (by have := World.block_lt_of_cell? _ _ hx294_0; first | rwa [add_block] at this | exact this) GW292.out); have hn294_1 : ad289.block ≠ gb292 := Nat.ne_of_lt (Nat.lt_of_lt_of_le (by have := World.block_lt_of_cell? _ _ hx294_0; first | rwa [add_block] at this | exact this) GW292.out); replace hx294_0 := pcb HB.out hx294_0; replace hx294_1 := pcb HB.out hx294_1; replace hx294_2 := pcb HB.out hx294_2; replace hx294_3 := pcb HB.out hx294_3; replace hx294_4 := pcb HB.out hx294_4; have HR294_3 := Am hi294_3; have HC294_3 := Am hl294_3; clear hi294_3 hl294_3; have HR294_4 := Am hi294_4; have HC294_4 := Am hl294_4; clear hi294_4 hl294_4; replace hx294_0 := (cell_far (p := ⟨gb292, 0, none⟩) (by first | (rw [add_block]; exact hn294_0) | (show (Addr.add _ _).block ≠ _; rw [add_block]; exact hn294_0) | exact hn294_0) (.string ((rd_T143 ((rd_T86 l0_0 x29_1).f4) x36_2).f0))).trans hx294_0; replace hx294_1 := (cell_far (p := ⟨gb292, 0, none⟩) (by first | (rw [add_block]; exact hn294_0) | (show (Addr.add _ _).block ≠ _; rw [add_block]; exact hn294_0) | exact hn294_0) (.string ((rd_T143 ((rd_T86 l0_0 x29_1).f4) x36_2).f0))).trans hx294_1; replace hx294_2 := (cell_far (p := ⟨gb292, 0, none⟩) (by first | (rw [add_block]; exact hn294_0) | (show (Addr.add _ _).block ≠ _; rw [add_block]; exact hn294_0) | exact hn294_0) (.string ((rd_T143 ((rd_T86 l0_0 x29_1).f4) x36_2).f0))).trans hx294_2; replace hx294_3 := (cell_far (p := ⟨gb292, 0, none⟩) (by first | (rw [add_block]; exact hn294_0) | (show (Addr.add _ _).block ≠ _; rw [add_block]; exact hn294_0) | exact hn294_0) (.string ((rd_T143 ((rd_T86 l0_0 x29_1).f4) x36_2).f0))).trans hx294_3; replace hx294_4 := (cell_far (p := ⟨gb292, 0, none⟩) (by first | (rw [add_block]; exact hn294_0) | (show (Addr.add _ _).block ≠ _; rw [add_block]; exact hn294_0) | exact hn294_0) (.string ((rd_T143 ((rd_T86 l0_0 x29_1).f4) x36_2).f0))).trans hx294_4; replace hx294_0 := (cell_far (p := ⟨gb292, 1, none⟩) (by first | (rw [add_block]; exact hn294_1) | (show (Addr.add _ _).block ≠ _; rw [add_block]; exact hn294_1) | exact hn294_1) (.int .i64 ((rd_T143 ((rd_T86 l0_0 x29_1).f4) x36_2).f1))).trans hx294_0; replace hx294_1 := (cell_far (p := ⟨gb292, 1, none⟩) (by first | (rw [add_block]; exact hn294_1) | (show (Addr.add _ _).block ≠ _; rw [add_block]; exact hn294_1) | exact hn294_1) (.int .i64 ((rd_T143 ((rd_T86 l0_0 x29_1).f4) x36_2).f1))).trans hx294_1; replace hx294_2 := (cell_far (p := ⟨gb292, 1, none⟩) (by first | (rw [add_block]; exact hn294_1) | (show (Addr.add _ _).block ≠ _; rw [add_block]; exact hn294_1) | exact hn294_1) (.int .i64 ((rd_T143 ((rd_T86 l0_0 x29_1).f4) x36_2).f1))).trans hx294_2; replace hx294_3 := (cell_far (p := ⟨gb292, 1, none⟩) (by first | (rw [add_block]; exact hn294_1) | (show (Addr.add _ _).block ≠ _; rw [add_block]; exact hn294_1) | exact hn294_1) (.int .i64 ((rd_T143 ((rd_T86 l0_0 x29_1).f4) x36_2).f1))).trans hx294_3; replace hx294_4 := (cell_far (p := ⟨gb292, 1, none⟩) (by first | (rw [add_block]; exact hn294_1) | (show (Addr.add _ _).block ≠ _; rw [add_block]; exact hn294_1) | exact hn294_1) (.int .i64 ((rd_T143 ((rd_T86 l0_0 x29_1).f4) x36_2).f1))).trans hx294_4; (try have hy294_0 := fun (n_ : Nat) => (show ((((w44.drewN n_).setCell ⟨gb292, 0, none⟩ (.string ((rd_T143 ((rd_T86 l0_0 x29_1).f4) x36_2).f0))).setCell ⟨gb292, 1, none⟩ (.int .i64 ((rd_T143 ((rd_T86 l0_0 x29_1).f4) x36_2).f1)))).cell? _ = some _ from hx294_0)); (try have hy294_1 := fun (n_ : Nat) => (show ((((w44.drewN n_).setCell ⟨gb292, 0, none⟩ (.string ((rd_T143 ((rd_T86 l0_0 x29_1).f4) x36_2).f0))).setCell ⟨gb292, 1, none⟩ (.int .i64 ((rd_T143 ((rd_T86 l0_0 x29_1).f4) x36_2).f1)))).cell? _ = some _ from hx294_1)); (try have hy294_2 := fun (n_ : Nat) => (show ((((w44.drewN n_).setCell ⟨gb292, 0, none⟩ (.string ((rd_T143 ((rd_T86 l0_0 x29_1).f4) x36_2).f0))).setCell ⟨gb292, 1, none⟩ (.int .i64 ((rd_T143 ((rd_T86 l0_0 x29_1).f4) x36_2).f1)))).cell? _ = some _ from hx294_2)); (try have hy294_3 := fun (n_ : Nat) => (show ((((w44.drewN n_).setCell ⟨gb292, 0, none⟩ (.string ((rd_T143 ((rd_T86 l0_0 x29_1).f4) x36_2).f0))).setCell ⟨gb292, 1, none⟩ (.int .i64 ((rd_T143 ((rd_T86 l0_0 x29_1).f4) x36_2).f1)))).cell? _ = some _ from hx294_3)); (try have hy294_4 := fun (n_ : Nat) => (show ((((w44.drewN n_).setCell ⟨gb292, 0, none⟩ (.string ((rd_T143 ((rd_T86 l0_0 x29_1).f4) x36_2).f0))).setCell ⟨gb292, 1, none⟩ (.int .i64 ((rd_T143 ((rd_T86 l0_0 x29_1).f4) x36_2).f1)))).cell? _ = some _ from hx294_4)); clear hn294_0; clear hn294_1; replace p294 := eq_true p294; replace q294 := eq_true q294)); try go_wp2_with (fail))
            go_roundg k2
            case measure => have := HK1.out; have := HK2.out; omega
            case rel => exact ⟨(wrap64 (x36_2 + 1)), (by rfl), H', ⟨by have := HK1.out; have := HK2.out; omega⟩, ⟨by (with_reducible repeat (refine blk_drewN ?_ _)); refine blk_far ?_ NB282_292.out _; refine blk_far ?_ NB282_292.out _; exact BK282.out⟩, ⟨by (with_reducible repeat (refine blk_drewN ?_ _)); refine blk_far ?_ NB290_292.out _; refine blk_far ?_ NB290_292.out _; exact BK290.out⟩, ⟨by repeat ((with_reducible first | exact HB.out | apply pw_below_drewN | refine below_set ?_ GE292.out))⟩⟩
         ·rw [if_neg c24] at H
          have c24b0 : decide (x36_2 < (((rd_T86 l0_0 x29_1).f4).length : Int)) = false := decide_eq_false c24
          clear c24
          have H' := Am H
          clear H
          go_wp2
          repeat (go_quiet (fail))
          go_roundg k2
          case measure => have := HK1.out; have := HK2.out; omega
          case rel => exact ⟨(wrap64 (x29_1 + 1)), (by rfl), H', ⟨by have := HK1.out; have := HK2.out; omega⟩, ⟨by exact BK282.out⟩, ⟨HB.out⟩⟩
      ·rw [if_neg c18] at H
       have c18b0 : decide (x29_1 < (l0_0.length : Int)) = false := decide_eq_false c18
       clear c18
       obtain rfl := Option.some.inj H
       go_wp2
       repeat (go_quiet (fail))
       go_ret
       exact ⟨by rfl, HB.out⟩
   ·replace c11 := Bool.eq_false_iff.mpr c11
    subst c11
    have H1 : (some 7) = some r := by rw [if_neg (show ¬ (false = true) by decide)] at H; exact H
    clear H
    have H := H1
    clear H1
    obtain rfl := Option.some.inj H
    go_enter Tryz.func104, Tryz.ntmps104
    go_wp2_with (first | ((with_reducible refine gate_dst (N := 1) rfl ?_); refine box_event ?hg (N := 1) ?hd (cs := #[.slice A0_0 l0_0.length c0_0, .slice A0_1 l0_1.length c0_1]) (t := 28) ?hr ?_; (case hd => rfl); (case hg => rfl); (case hr => (go_simp; done)); intro gb282 hg w50 hbox hb; have BK282 := Am hbox; have GW282 := Am ((nge hg HB.out)); have GE282 := Am ((nge hg HB.out)); replace HB := Am (below_step HB.out hb); clear hb hbox hg; obtain ⟨hcz51_0, hcz51_1, hfz51_0, hfz51_1⟩ := cb2 BK282.out) | (go_at_call 172; (with_reducible refine (qk.calls k _ _ l0_0 _ _ l0_1 t283 _ ?side1 ?side2 ?side3 ?side4 A2.out).mono ?_); (case side1 => repeat (exact (Kd.C_below HR0_0.out HB.out))); (case side2 => exact HC0_0.out); (case side3 => repeat (exact (Kd.C_below HR0_1.out HB.out))); (case side4 => exact HC0_1.out); rintro e w52 ⟨rfl, hb⟩; replace BK282 := Am (blk_below BK282.out hb); replace HB := Am (below_step HB.out hb); (try clear hb); obtain ⟨hcz53_0, hcz53_1, hfz53_0, hfz53_1⟩ := cb2 BK282.out) | (go_at_call 173; (with_reducible refine (q1j.calls k _ _ l0_1 false _ ?side1 ?side2 A4.out).mono ?_); (case side1 => repeat (exact (Kd.C_below HR0_1.out HB.out))); (case side2 => exact HC0_1.out); rintro e w' ⟨rfl, ⟨nd, rfl⟩⟩) | (go_at_call 122; (with_reducible refine (qq.calls k _ _ l0_0 t285 false _ ?side1 ?side2 A10.out).mono ?_); (case side1 => repeat (exact (Kd.C_below HR0_0.out (by repeat ((with_reducible first | exact HB.out | apply pw_below_drewN)))))); (case side2 => exact HC0_0.out); rintro e w54 ⟨v287, rfl, ho0, hb⟩; have HO288 := Am (Kd.R_lower ho0 (below_size (by repeat ((with_reducible first | exact HB.out | apply pw_below_drewN))))); replace BK282 := Am (blk_below (by (with_reducible repeat (refine blk_drewN ?_ _)); exact BK282.out) hb); replace HB := Am (below_step (by repeat ((with_reducible first | exact HB.out | apply pw_below_drewN))) hb); (try clear hb); (try clear ho0)))
    repeat (go_quiet (first | ((with_reducible refine gate_dst (N := 1) rfl ?_); refine box_event ?hg (N := 1) ?hd (cs := #[.slice A0_0 l0_0.length c0_0, .slice A0_1 l0_1.length c0_1]) (t := 28) ?hr ?_; (case hd => rfl); (case hg => rfl); (case hr => first | (go_simp; done) | (go_simp; rfl)); intro gb282 hg w50 hbox hb; have BK282 := Am hbox; have GW282 := Am ((nge hg (by repeat (first | (with_reducible first | exact HB.out | apply below_alloc | apply pw_below_drewN | apply below_drew1) | exact HB.out)))); have GE282 := Am ((nge hg (by repeat (first | (with_reducible first | exact HB.out | apply below_alloc | apply pw_below_drewN | apply below_drew1) | exact HB.out)))); replace HB := Am (below_step (by repeat (first | (with_reducible first | exact HB.out | apply below_alloc | apply pw_below_drewN | apply below_drew1) | exact HB.out)) hb); clear hb hbox hg; obtain ⟨hcz51_0, hcz51_1, hfz51_0, hfz51_1⟩ := cb2 BK282.out) | (go_at_call 172; (with_reducible refine (qk.calls k _ _ l0_0 _ _ l0_1 t283 _ ?side1 ?side2 ?side3 ?side4 A2.out).mono ?_); (case side1 => repeat (first | exact (Kd.C_below HR0_0.out HB.out) | (with_reducible refine Kd.C_alloc ?_ _) | (with_reducible refine Kd.C_drewN ?_ _) | (with_reducible refine Kd.C_drew ?_))); (case side2 => exact HC0_0.out); (case side3 => repeat (first | exact (Kd.C_below HR0_1.out HB.out) | (with_reducible refine Kd.C_alloc ?_ _) | (with_reducible refine Kd.C_drewN ?_ _) | (with_reducible refine Kd.C_drew ?_))); (case side4 => exact HC0_1.out); rintro e w52 ⟨rfl, hb⟩; replace BK282 := Am (blk_below (by (with_reducible repeat (first | refine blk_drewN ?_ _ | refine blk_drew ?_ | refine blk_alloc ?_ _)); exact BK282.out) hb); replace HB := Am (below_step (by repeat (first | (with_reducible first | exact HB.out | apply below_alloc | apply pw_below_drewN | apply below_drew1 | refine below_set ?_ GE282.out) | exact HB.out)) hb); (try clear hb); (try clear hb2); (try clear hk); (try clear hi); obtain ⟨hcz53_0, hcz53_1, hfz53_0, hfz53_1⟩ := cb2 BK282.out) | (go_at_call 173; (with_reducible refine (q1j.calls k _ _ l0_1 false _ ?side1 ?side2 A4.out).mono ?_); (case side1 => repeat (first | exact (Kd.C_below HR0_1.out HB.out) | (with_reducible refine Kd.C_alloc ?_ _) | (with_reducible refine Kd.C_drewN ?_ _) | (with_reducible refine Kd.C_drew ?_))); (case side2 => exact HC0_1.out); rintro e w' ⟨rfl, ⟨nd, rfl⟩⟩; (try first | exact ⟨rfl, _, World.drewN_drewN _ _ _⟩ | exact ⟨rfl, _, Eq.trans (World.drewN_drewN _ _ _) (congrArg (World.drewN _) (Nat.add_assoc _ _ _))⟩)) | (go_at_call 122; (with_reducible refine (qq.calls k _ _ l0_0 t285 false _ ?side1 ?side2 A10.out).mono ?_); (case side1 => repeat (first | exact (Kd.C_below HR0_0.out (by repeat (first | (with_reducible first | exact HB.out | apply below_alloc | apply pw_below_drewN | apply below_drew1 | refine below_set ?_ GE282.out) | exact HB.out))) | (with_reducible refine Kd.C_alloc ?_ _) | (with_reducible refine Kd.C_drewN ?_ _) | (with_reducible refine Kd.C_drew ?_))); (case side2 => exact HC0_0.out); rintro e w54 ⟨v287, rfl, ho0, hb⟩; have HO288 := Am (Kd.R_lower ho0 (below_size (by repeat (first | (with_reducible first | exact HB.out | apply below_alloc | apply pw_below_drewN | apply below_drew1 | refine below_set ?_ GE282.out) | exact HB.out)))); replace BK282 := Am (blk_below (by (with_reducible repeat (first | refine blk_drewN ?_ _ | refine blk_drew ?_ | refine blk_alloc ?_ _)); exact BK282.out) hb); replace HB := Am (below_step (by repeat (first | (with_reducible first | exact HB.out | apply below_alloc | apply pw_below_drewN | apply below_drew1 | refine below_set ?_ GE282.out) | exact HB.out)) hb); (try clear hb); (try clear hb2); (try clear hk); (try clear hi); (try clear ho0))))
    go_ret
    exact ⟨by rfl, HB.out⟩
 ·rw [if_neg c3] at H
  have c3b0 : (t283 == 0) = false := beq_eq_false_iff_ne.mpr c3
  have c3b1 : (t283 != 0) = true := bne_iff_ne.mpr c3
  obtain rfl := Option.some.inj H
  go_enter Tryz.func104, Tryz.ntmps104
  go_wp2_with (first | ((with_reducible refine gate_dst (N := 1) rfl ?_); refine box_event ?hg (N := 1) ?hd (cs := #[.slice A0_0 l0_0.length c0_0, .slice A0_1 l0_1.length c0_1]) (t := 28) ?hr ?_; (case hd => rfl); (case hg => rfl); (case hr => (go_simp; done)); intro gb282 hg w55 hbox hb; have BK282 := Am hbox; have GW282 := Am ((nge hg HB.out)); have GE282 := Am ((nge hg HB.out)); replace HB := Am (below_step HB.out hb); clear hb hbox hg; obtain ⟨hcz56_0, hcz56_1, hfz56_0, hfz56_1⟩ := cb2 BK282.out) | (go_at_call 172; (with_reducible refine (qk.calls k _ _ l0_0 _ _ l0_1 t283 _ ?side1 ?side2 ?side3 ?side4 A2.out).mono ?_); (case side1 => repeat (exact (Kd.C_below HR0_0.out HB.out))); (case side2 => exact HC0_0.out); (case side3 => repeat (exact (Kd.C_below HR0_1.out HB.out))); (case side4 => exact HC0_1.out); rintro e w57 ⟨rfl, hb⟩; replace BK282 := Am (blk_below BK282.out hb); replace HB := Am (below_step HB.out hb); (try clear hb)))
  repeat (go_quiet (first | ((with_reducible refine gate_dst (N := 1) rfl ?_); refine box_event ?hg (N := 1) ?hd (cs := #[.slice A0_0 l0_0.length c0_0, .slice A0_1 l0_1.length c0_1]) (t := 28) ?hr ?_; (case hd => rfl); (case hg => rfl); (case hr => first | (go_simp; done) | (go_simp; rfl)); intro gb282 hg w55 hbox hb; have BK282 := Am hbox; have GW282 := Am ((nge hg (by repeat (first | (with_reducible first | exact HB.out | apply below_alloc | apply pw_below_drewN | apply below_drew1) | exact HB.out)))); have GE282 := Am ((nge hg (by repeat (first | (with_reducible first | exact HB.out | apply below_alloc | apply pw_below_drewN | apply below_drew1) | exact HB.out)))); replace HB := Am (below_step (by repeat (first | (with_reducible first | exact HB.out | apply below_alloc | apply pw_below_drewN | apply below_drew1) | exact HB.out)) hb); clear hb hbox hg; obtain ⟨hcz56_0, hcz56_1, hfz56_0, hfz56_1⟩ := cb2 BK282.out) | (go_at_call 172; (with_reducible refine (qk.calls k _ _ l0_0 _ _ l0_1 t283 _ ?side1 ?side2 ?side3 ?side4 A2.out).mono ?_); (case side1 => repeat (first | exact (Kd.C_below HR0_0.out HB.out) | (with_reducible refine Kd.C_alloc ?_ _) | (with_reducible refine Kd.C_drewN ?_ _) | (with_reducible refine Kd.C_drew ?_))); (case side2 => exact HC0_0.out); (case side3 => repeat (first | exact (Kd.C_below HR0_1.out HB.out) | (with_reducible refine Kd.C_alloc ?_ _) | (with_reducible refine Kd.C_drewN ?_ _) | (with_reducible refine Kd.C_drew ?_))); (case side4 => exact HC0_1.out); rintro e w57 ⟨rfl, hb⟩; replace BK282 := Am (blk_below (by (with_reducible repeat (first | refine blk_drewN ?_ _ | refine blk_drew ?_ | refine blk_alloc ?_ _)); exact BK282.out) hb); replace HB := Am (below_step (by repeat (first | (with_reducible first | exact HB.out | apply below_alloc | apply pw_below_drewN | apply below_drew1 | refine below_set ?_ GE282.out) | exact HB.out)) hb); (try clear hb); (try clear hb2); (try clear hk); (try clear hi))))
  go_ret
  exact ⟨by rfl, HB.out⟩
end Go.Proofs.YtafhjhdohclchaaGreatDoor.G
namespace Go.Proofs.YtafhjhdohclchaaGreatDoor.G
open Go.RowKit Go.Proofs.YtafhjhdohclchaaGreatDoorW.PrintWords Go.Proofs.YtafhjhdohclchaaGreatDoorW.PrintLast Go.Proofs.YtafhjhdohclchaaGreatDoorW.PrintMore
attribute [local go_sem] min2_int min_two
attribute [local go_sem high] str_leq
attribute [local go_sem] binOp_string_geq
def qb.f (k : Nat) (l0_0 : List (S86)) (l0_1 : List (List Int)) : Option (Int) := (qo.f k l0_0 l0_1).bind fun t330 => (if t330 = 0 then ((qf.f k l0_0 l0_1).bind fun t331 => (if t331 = 0 then ((q7.f l0_0 l0_1).bind fun t332 => (some t332)) else (some t331))) else (some t330))
theorem qb.mono : ∀ a0 a1 k, LeO (qb.f k a0 a1) (qb.f (k + 1) a0 a1) := by
 intro a0 a1 k
 unfold qb.f
 repeat' first | (with_reducible exact qf.mono _ _ _) | (with_reducible exact qo.mono _ _ _) | (with_reducible exact LeO.refl _) | (with_reducible refine LeO.ite ?_ ?_) | (with_reducible refine LeO.bind ?_ (fun _ => ?_))
set_option maxHeartbeats 8000000 in
set_option maxRecDepth 100000 in
theorem qb.calls (k : Nat) (A0_0 : Option Addr) (c0_0 : Nat) (l0_0 : List (S86)) (A0_1 : Option Addr) (c0_1 : Nat) (l0_1 : List (List Int)) (r : Int) (w : World) (hr0_0 : Kd.C k86 w A0_0 l0_0.length l0_0) (hc0_0 : l0_0.length ≤ c0_0) (hr0_1 : Kd.C (Kd.slice 5 (Kd.int .u8)) w A0_1 l0_1.length l0_1) (hc0_1 : l0_1.length ≤ c0_1) (h : qb.f k l0_0 l0_1 = some r) :
  Calls Tryz.prog 43 #[.agg #[.slice A0_0 l0_0.length c0_0, .slice A0_1 l0_1.length c0_1]] w fun e w' => e = .returned (.int .i64 r) ∧ Below w.heap.size w w' := by
 have hu28 := Tryz.underlying28
 have HR0_0 := Am hr0_0
 have HC0_0 := Am hc0_0
 clear hr0_0 hc0_0
 have HR0_1 := Am hr0_1
 have HC0_1 := Am hc0_1
 clear hr0_1 hc0_1
 have HB := Am (Below.refl w.heap.size w)
 have H : ((qo.f k l0_0 l0_1).bind fun t330 => (if t330 = 0 then ((qf.f k l0_0 l0_1).bind fun t331 => (if t331 = 0 then ((q7.f l0_0 l0_1).bind fun t332 => (some t332)) else (some t331))) else (some t330))) = some r := h
 clear h
 replace H := zbs H
 obtain ⟨t330, A2, H⟩ := H
 by_cases c3 : t330 = 0
 ·rw [if_pos c3] at H
  have c3b0 : (t330 == 0) = true := beq_iff_eq.mpr c3
  have c3b1 : (t330 != 0) = false := bne_eq_false_iff_eq.mpr c3
  clear c3
  replace H := zbs H
  obtain ⟨t331, A4, H⟩ := H
  by_cases c5 : t331 = 0
  ·rw [if_pos c5] at H
   have c5b0 : (t331 == 0) = true := beq_iff_eq.mpr c5
   have c5b1 : (t331 != 0) = false := bne_eq_false_iff_eq.mpr c5
   clear c5
   replace H := zbs H
   obtain ⟨t332, A6, H⟩ := H
   obtain rfl := Option.some.inj H
   go_enter Tryz.func43, Tryz.ntmps43
   go_wp2_with (first | ((with_reducible refine gate_dst (N := 1) rfl ?_); refine box_event ?hg (N := 1) ?hd (cs := #[.slice A0_0 l0_0.length c0_0, .slice A0_1 l0_1.length c0_1]) (t := 28) ?hr ?_; (case hd => rfl); (case hg => rfl); (case hr => (go_simp; done)); intro gb329 hg w7 hbox hb; have BK329 := Am hbox; have GW329 := Am ((nge hg HB.out)); have GE329 := Am ((nge hg HB.out)); replace HB := Am (below_step HB.out hb); clear hb hbox hg; obtain ⟨hcz8_0, hcz8_1, hfz8_0, hfz8_1⟩ := cb2 BK329.out) | ((with_reducible refine gate_callee (f := 104) rfl ?_); refine goesL_ (some 6) rfl rfl Tryz.func104 (by kernel_rfl) rfl #[.agg #[.slice A0_0 l0_0.length c0_0, .slice A0_1 l0_1.length c0_1]] rfl (by (try simp only [List.map_toArray, List.map_cons, List.map_nil]); rfl) ?_; (with_reducible refine (qo.calls k _ _ l0_0 _ _ l0_1 t330 _ ?side1 ?side2 ?side3 ?side4 A2.out).mono ?_); (case side1 => repeat (exact (Kd.C_below HR0_0.out HB.out))); (case side2 => exact HC0_0.out); (case side3 => repeat (exact (Kd.C_below HR0_1.out HB.out))); (case side4 => exact HC0_1.out); rintro e w9 ⟨rfl, hb⟩; refine ⟨_, rfl, ?_⟩; replace BK329 := Am (blk_below BK329.out hb); replace HB := Am (below_step HB.out hb); (try clear hb); obtain ⟨hcz10_0, hcz10_1, hfz10_0, hfz10_1⟩ := cb2 BK329.out) | ((with_reducible refine gate_callee (f := 105) rfl ?_); refine goesL_ (some 11) rfl rfl Tryz.func105 (by kernel_rfl) rfl #[.agg #[.slice A0_0 l0_0.length c0_0, .slice A0_1 l0_1.length c0_1]] rfl (by (try simp only [List.map_toArray, List.map_cons, List.map_nil]); rfl) ?_; (with_reducible refine (qf.calls k _ _ l0_0 _ _ l0_1 t331 _ ?side1 ?side2 ?side3 ?side4 A4.out).mono ?_); (case side1 => repeat (exact (Kd.C_below HR0_0.out HB.out))); (case side2 => exact HC0_0.out); (case side3 => repeat (exact (Kd.C_below HR0_1.out HB.out))); (case side4 => exact HC0_1.out); rintro e w11 ⟨rfl, hb⟩; refine ⟨_, rfl, ?_⟩; replace BK329 := Am (blk_below BK329.out hb); replace HB := Am (below_step HB.out hb); (try clear hb); obtain ⟨hcz12_0, hcz12_1, hfz12_0, hfz12_1⟩ := cb2 BK329.out) | ((with_reducible refine gate_callee (f := 106) rfl ?_); refine goesL_ (some 16) rfl rfl Tryz.func106 (by kernel_rfl) rfl #[.agg #[.slice A0_0 l0_0.length c0_0, .slice A0_1 l0_1.length c0_1]] rfl (by (try simp only [List.map_toArray, List.map_cons, List.map_nil]); rfl) ?_; (with_reducible refine (q7.calls _ _ l0_0 _ _ l0_1 t332 _ ?side1 ?side2 ?side3 ?side4 A6.out).mono ?_); (case side1 => repeat (exact (Kd.C_below HR0_0.out HB.out))); (case side2 => exact HC0_0.out); (case side3 => repeat (exact (Kd.C_below HR0_1.out HB.out))); (case side4 => exact HC0_1.out); rintro e w13 ⟨rfl, hb⟩; refine ⟨_, rfl, ?_⟩; replace BK329 := Am (blk_below BK329.out hb); replace HB := Am (below_step HB.out hb); (try clear hb)))
   go_ret
   exact ⟨by rfl, HB.out⟩
  ·rw [if_neg c5] at H
   have c5b0 : (t331 == 0) = false := beq_eq_false_iff_ne.mpr c5
   have c5b1 : (t331 != 0) = true := bne_iff_ne.mpr c5
   obtain rfl := Option.some.inj H
   go_enter Tryz.func43, Tryz.ntmps43
   go_wp2_with (first | ((with_reducible refine gate_dst (N := 1) rfl ?_); refine box_event ?hg (N := 1) ?hd (cs := #[.slice A0_0 l0_0.length c0_0, .slice A0_1 l0_1.length c0_1]) (t := 28) ?hr ?_; (case hd => rfl); (case hg => rfl); (case hr => (go_simp; done)); intro gb329 hg w14 hbox hb; have BK329 := Am hbox; have GW329 := Am ((nge hg HB.out)); have GE329 := Am ((nge hg HB.out)); replace HB := Am (below_step HB.out hb); clear hb hbox hg; obtain ⟨hcz15_0, hcz15_1, hfz15_0, hfz15_1⟩ := cb2 BK329.out) | ((with_reducible refine gate_callee (f := 104) rfl ?_); refine goesL_ (some 6) rfl rfl Tryz.func104 (by kernel_rfl) rfl #[.agg #[.slice A0_0 l0_0.length c0_0, .slice A0_1 l0_1.length c0_1]] rfl (by (try simp only [List.map_toArray, List.map_cons, List.map_nil]); rfl) ?_; (with_reducible refine (qo.calls k _ _ l0_0 _ _ l0_1 t330 _ ?side1 ?side2 ?side3 ?side4 A2.out).mono ?_); (case side1 => repeat (exact (Kd.C_below HR0_0.out HB.out))); (case side2 => exact HC0_0.out); (case side3 => repeat (exact (Kd.C_below HR0_1.out HB.out))); (case side4 => exact HC0_1.out); rintro e w16 ⟨rfl, hb⟩; refine ⟨_, rfl, ?_⟩; replace BK329 := Am (blk_below BK329.out hb); replace HB := Am (below_step HB.out hb); (try clear hb); obtain ⟨hcz17_0, hcz17_1, hfz17_0, hfz17_1⟩ := cb2 BK329.out) | ((with_reducible refine gate_callee (f := 105) rfl ?_); refine goesL_ (some 11) rfl rfl Tryz.func105 (by kernel_rfl) rfl #[.agg #[.slice A0_0 l0_0.length c0_0, .slice A0_1 l0_1.length c0_1]] rfl (by (try simp only [List.map_toArray, List.map_cons, List.map_nil]); rfl) ?_; (with_reducible refine (qf.calls k _ _ l0_0 _ _ l0_1 t331 _ ?side1 ?side2 ?side3 ?side4 A4.out).mono ?_); (case side1 => repeat (exact (Kd.C_below HR0_0.out HB.out))); (case side2 => exact HC0_0.out); (case side3 => repeat (exact (Kd.C_below HR0_1.out HB.out))); (case side4 => exact HC0_1.out); rintro e w18 ⟨rfl, hb⟩; refine ⟨_, rfl, ?_⟩; replace BK329 := Am (blk_below BK329.out hb); replace HB := Am (below_step HB.out hb); (try clear hb)))
   go_ret
   exact ⟨by rfl, HB.out⟩
 ·rw [if_neg c3] at H
  have c3b0 : (t330 == 0) = false := beq_eq_false_iff_ne.mpr c3
  have c3b1 : (t330 != 0) = true := bne_iff_ne.mpr c3
  obtain rfl := Option.some.inj H
  go_enter Tryz.func43, Tryz.ntmps43
  go_wp2_with (first | ((with_reducible refine gate_dst (N := 1) rfl ?_); refine box_event ?hg (N := 1) ?hd (cs := #[.slice A0_0 l0_0.length c0_0, .slice A0_1 l0_1.length c0_1]) (t := 28) ?hr ?_; (case hd => rfl); (case hg => rfl); (case hr => (go_simp; done)); intro gb329 hg w19 hbox hb; have BK329 := Am hbox; have GW329 := Am ((nge hg HB.out)); have GE329 := Am ((nge hg HB.out)); replace HB := Am (below_step HB.out hb); clear hb hbox hg; obtain ⟨hcz20_0, hcz20_1, hfz20_0, hfz20_1⟩ := cb2 BK329.out) | ((with_reducible refine gate_callee (f := 104) rfl ?_); refine goesL_ (some 6) rfl rfl Tryz.func104 (by kernel_rfl) rfl #[.agg #[.slice A0_0 l0_0.length c0_0, .slice A0_1 l0_1.length c0_1]] rfl (by (try simp only [List.map_toArray, List.map_cons, List.map_nil]); rfl) ?_; (with_reducible refine (qo.calls k _ _ l0_0 _ _ l0_1 t330 _ ?side1 ?side2 ?side3 ?side4 A2.out).mono ?_); (case side1 => repeat (exact (Kd.C_below HR0_0.out HB.out))); (case side2 => exact HC0_0.out); (case side3 => repeat (exact (Kd.C_below HR0_1.out HB.out))); (case side4 => exact HC0_1.out); rintro e w21 ⟨rfl, hb⟩; refine ⟨_, rfl, ?_⟩; replace BK329 := Am (blk_below BK329.out hb); replace HB := Am (below_step HB.out hb); (try clear hb)))
  go_ret
  exact ⟨by rfl, HB.out⟩
end Go.Proofs.YtafhjhdohclchaaGreatDoor.G
namespace Go.Proofs.YtafhjhdohclchaaGreatDoor.G
open Go.RowKit Go.Proofs.YtafhjhdohclchaaGreatDoorW.PrintWords Go.Proofs.YtafhjhdohclchaaGreatDoorW.PrintLast Go.Proofs.YtafhjhdohclchaaGreatDoorW.PrintMore
attribute [local go_sem] min2_int min_two
theorem Ev.val {α : Type} {A : Nat → Option α} {a : α} (h : ∀ k, A k = some a) : Ev A a := ⟨0, fun k _ => h k⟩
theorem w1 (i : Nat) (h : i < 4611686018427387904) : wrap64 ((i : Int) + 1) = ((i + 1 : Nat) : Int) := by rw [w64_id _ (by omega) (by omega)]; omega
theorem rdT_eq (xs : List S86) (i : Nat) (h : i < xs.length) : rd_T86 xs (i : Int) = xs[i] := by simp [rd_T86, List.getD_eq_getElem?_getD, List.getElem?_eq_getElem h]
theorem rdE_eq (xs : List S143) (i : Nat) (h : i < xs.length) : rd_T143 xs (i : Int) = xs[i] := by simp [rd_T143, List.getD_eq_getElem?_getD, List.getElem?_eq_getElem h]
theorem rd_eq (xs : List Int) (i : Nat) (h : i < xs.length) : rd xs (i : Int) = xs[i] := by simp [rd, List.getD_eq_getElem?_getD, List.getElem?_eq_getElem h]
def inB (a b c : Int) : Bool := decide (b ≤ a ∧ a ≤ c)
theorem within_eq (a b c : Int) : qr.f a b c = some (inB a b c) := by
  unfold qr.f inB
  split <;> simp <;> omega
theorem l1In_eq (a b c : Int) : q1r.f a b c = some (inB a b c) := by
  unfold q1r.f inB
  split <;> simp <;> omega
/-- a name's letters -/
def NameOK (s : ByteArray) : Prop := 1 ≤ s.size ∧ s.size ≤ 4 ∧ ∀ b ∈ s.data.toList, 97 ≤ b.toNat ∧ b.toNat ≤ 122
theorem nameFault_loop (s : ByteArray) (hs : s.size ≤ 4611686018427387904) : ∀ (d i : Nat), s.size = i + d → (∀ j (h : j < s.data.toList.length), j < i → 97 ≤ (s.data.toList[j]).toNat ∧ (s.data.toList[j]).toNat ≤ 122) → s.toList ≠ [] →
    ∃ r, Ev (fun k => qi.l0 k s (s.size : Int) (i : Int)) r ∧ Ev (fun k => q1p.l0 k s (i : Int)) r ∧ (r = 0 → NameOK s) := by
  intro d
  induction d with
  | zero =>
    intro i hl hj hne
    by_cases h4 : (s.size : Int) > 4
    · exact ⟨2, Ev.step (fun k => qi.l0.eq_2 ..) (Ev.im (by omega) (Ev.ip h4 (Ev.now _))), Ev.step (fun k => q1p.l0.eq_2 ..) (Ev.im (by omega) (Ev.im hne (Ev.ip h4 (Ev.now _)))), by omega⟩
    · refine ⟨0, Ev.step (fun k => qi.l0.eq_2 ..) (Ev.im (by omega) (Ev.im h4 (Ev.now _))), Ev.step (fun k => q1p.l0.eq_2 ..) (Ev.im (by omega) (Ev.im hne (Ev.im h4 (Ev.now _)))), fun _ => ⟨?_, by omega, ?_⟩⟩
      · rw [size_len]
        rw [toList_data] at hne
        exact List.length_pos_iff.2 hne
      · intro b hb
        obtain ⟨j, hj1, rfl⟩ := List.getElem_of_mem hb
        exact hj j hj1 (by rw [← size_len] at hj1; omega)
  | succ d ih =>
    intro i hl hj hne
    have hi : i < s.data.toList.length := by rw [← size_len]; omega
    have hbt := bt_get s i hi
    by_cases h1 : bt s (i : Int) < 97
    · exact ⟨5, Ev.step (fun k => qi.l0.eq_2 ..) (Ev.ip (by omega) (Ev.ip (by omega) (Ev.ip (by omega) (Ev.ip h1 (Ev.now _))))), Ev.step (fun k => q1p.l0.eq_2 ..) (Ev.ip (by omega) (Ev.ip (by omega) (Ev.ip h1 (Ev.now _)))), by omega⟩
    by_cases h2 : bt s (i : Int) > 122
    · exact ⟨5, Ev.step (fun k => qi.l0.eq_2 ..) (Ev.ip (by omega) (Ev.ip (by omega) (Ev.ip (by omega) (Ev.im h1 (Ev.ip h2 (Ev.now _)))))), Ev.step (fun k => q1p.l0.eq_2 ..) (Ev.ip (by omega) (Ev.ip (by omega) (Ev.im h1 (Ev.ip h2 (Ev.now _))))), by omega⟩
    obtain ⟨r, ha, hb, hp⟩ := ih (i + 1) (by omega) (fun j hj1 hj2 => by
      by_cases e : j = i
      · subst e; omega
      · exact hj j hj1 (by omega)) hne
    rw [← w1 i (by omega)] at ha hb
    exact ⟨r, Ev.step (fun k => qi.l0.eq_2 ..) (Ev.ip (by omega) (Ev.ip (by omega) (Ev.ip (by omega) (Ev.im h1 (Ev.im h2 ha))))), Ev.step (fun k => q1p.l0.eq_2 ..) (Ev.ip (by omega) (Ev.ip (by omega) (Ev.im h1 (Ev.im h2 hb)))), hp⟩
theorem name_both (s : ByteArray) (hs : s.size ≤ 4611686018427387904) : ∃ r, Ev (fun k => qi.f k s) r ∧ Ev (fun k => q1p.f k s) r ∧ (r = 0 → NameOK s) := by
  unfold qi.f q1p.f
  by_cases h : s.toList = ([] : List UInt8)
  · have h0 : s.size = 0 := by rw [size_len, ← toList_data, h]; rfl
    exact ⟨5, Ev.ip h (Ev.now _), Ev.step (fun k => q1p.l0.eq_2 ..) (Ev.im (by omega) (Ev.ip h (Ev.now _))), by omega⟩
  · obtain ⟨r, ha, hb, hp⟩ := nameFault_loop s hs s.size 0 (by omega) (fun j _ hj => by omega) h
    exact ⟨r, Ev.im h ha, hb, hp⟩
/-- directories -/
structure DirOK (es : List S143) : Prop where
  len : es.length ≤ 6
  nm : ∀ e ∈ es, NameOK e.f0 ∧ 0 ≤ e.f1 ∧ e.f1 ≤ 9
theorem dir_loop (es : List S143) (a b c : Int) (bl : List Int) (h6 : es.length ≤ 6) (hs : ∀ e ∈ es, e.f0.size ≤ 4611686018427387904) : ∀ (d i : Nat), es.length = i + d → (∀ j (h : j < es.length), j < i → NameOK es[j].f0 ∧ 0 ≤ es[j].f1 ∧ es[j].f1 ≤ 9) →
    ∃ r, Ev (fun k => q8.l0 k es (es.length : Int) (i : Int) a b c bl es) r ∧ Ev (fun k => q1u.l0 k (i : Int) a b c bl es) (r, a, b, c) ∧ (r = 0 → DirOK es) := by
  intro d
  induction d with
  | zero =>
    intro i hl hj
    refine ⟨0, Ev.step (fun k => q8.l0.eq_2 ..) (Ev.im (by omega) (Ev.now _)), Ev.step (fun k => q1u.l0.eq_2 ..) (Ev.im (by omega) (Ev.now _)), fun _ => ⟨h6, fun e he => ?_⟩⟩
    obtain ⟨j, hj1, rfl⟩ := List.getElem_of_mem he
    exact hj j hj1 (by omega)
  | succ d ih =>
    intro i hl hj
    have hi : i < es.length := by omega
    have hx := rdE_eq es i hi
    obtain ⟨t, ha, hb, hp⟩ := name_both es[i].f0 (hs _ (List.getElem_mem hi))
    rw [← hx] at ha hb
    by_cases ht : t = 0
    case neg => exact ⟨t, Ev.step (fun k => q8.l0.eq_2 ..) (Ev.ip (by omega) (Ev.ip (by omega) (Ev.ip (by omega) (Ev.bind ha (Ev.im ht (Ev.now _)))))), Ev.step (fun k => q1u.l0.eq_2 ..) (Ev.ip (by omega) (Ev.ip (by omega) (Ev.bind hb (Ev.im ht (Ev.now _))))), fun h => absurd h ht⟩
    subst ht
    cases hin : inB (rd_T143 es (i : Int)).f1 0 9 with
    | false => exact ⟨3, Ev.step (fun k => q8.l0.eq_2 ..) (Ev.ip (by omega) (Ev.ip (by omega) (Ev.ip (by omega) (Ev.bind ha (Ev.ip rfl (Ev.bind (Ev.val fun _ => within_eq ..) (Ev.im (by rw [hin]; simp) (Ev.now _)))))))), Ev.step (fun k => q1u.l0.eq_2 ..) (Ev.ip (by omega) (Ev.ip (by omega) (Ev.bind hb (Ev.ip rfl (Ev.bind (Ev.val fun _ => l1In_eq ..) (Ev.im (by rw [hin]; simp) (Ev.now _))))))), by omega⟩
    | true =>
      have hin' : 0 ≤ es[i].f1 ∧ es[i].f1 ≤ 9 := by rw [hx] at hin; simpa [inB] using hin
      obtain ⟨r, iha, ihb, ihp⟩ := ih (i + 1) (by omega) (fun j hj1 hj2 => by
        by_cases e : j = i
        · subst e; exact ⟨hp rfl, hin'⟩
        · exact hj j hj1 (by omega))
      rw [← w1 i (by omega)] at iha ihb
      by_cases h0 : i = 0
      · exact ⟨r, Ev.step (fun k => q8.l0.eq_2 ..) (Ev.ip (by omega) (Ev.ip (by omega) (Ev.ip (by omega) (Ev.bind ha (Ev.ip rfl (Ev.bind (Ev.val fun _ => within_eq ..) (Ev.ip hin (Ev.im (by omega) iha)))))))), Ev.step (fun k => q1u.l0.eq_2 ..) (Ev.ip (by omega) (Ev.ip (by omega) (Ev.bind hb (Ev.ip rfl (Ev.bind (Ev.val fun _ => l1In_eq ..) (Ev.ip hin (Ev.im (by omega) ihb))))))), ihp⟩
      · have hw : wrap64 ((i : Int) - 1) = ((i - 1 : Nat) : Int) := by rw [w64_id _ (by omega) (by omega)]; omega
        by_cases hlt : Op.bytesLess (rd_T143 es (wrap64 ((i : Int) - 1))).f0.toList (rd_T143 es (i : Int)).f0.toList = true
        · exact ⟨r, Ev.step (fun k => q8.l0.eq_2 ..) (Ev.ip (by omega) (Ev.ip (by omega) (Ev.ip (by omega) (Ev.bind ha (Ev.ip rfl (Ev.bind (Ev.val fun _ => within_eq ..) (Ev.ip hin (Ev.ip (by omega) (Ev.ip (by omega) (Ev.ip (by omega) (Ev.ip hlt iha))))))))))), Ev.step (fun k => q1u.l0.eq_2 ..) (Ev.ip (by omega) (Ev.ip (by omega) (Ev.bind hb (Ev.ip rfl (Ev.bind (Ev.val fun _ => l1In_eq ..) (Ev.ip hin (Ev.ip (by omega) (Ev.ip (by omega) (Ev.ip (by omega) (Ev.ip hlt ihb)))))))))), ihp⟩
        · exact ⟨1, Ev.step (fun k => q8.l0.eq_2 ..) (Ev.ip (by omega) (Ev.ip (by omega) (Ev.ip (by omega) (Ev.bind ha (Ev.ip rfl (Ev.bind (Ev.val fun _ => within_eq ..) (Ev.ip hin (Ev.ip (by omega) (Ev.ip (by omega) (Ev.ip (by omega) (Ev.im hlt (Ev.now _)))))))))))), Ev.step (fun k => q1u.l0.eq_2 ..) (Ev.ip (by omega) (Ev.ip (by omega) (Ev.bind hb (Ev.ip rfl (Ev.bind (Ev.val fun _ => l1In_eq ..) (Ev.ip hin (Ev.ip (by omega) (Ev.ip (by omega) (Ev.ip (by omega) (Ev.im hlt (Ev.now _))))))))))), by omega⟩
theorem dir_both (es : List S143) (a b c : Int) (bl : List Int) (hs : ∀ e ∈ es, e.f0.size ≤ 4611686018427387904) :
    ∃ r, Ev (fun k => q8.f k a b c bl es) r ∧ Ev (fun k => q1u.f k a b c bl es) (r, a, b, c) ∧ (r = 0 → DirOK es) := by
  unfold q8.f q1u.f
  by_cases h6 : (es.length : Int) > 6
  · exact ⟨2, Ev.ip h6 (Ev.now _), Ev.ip h6 (Ev.now _), by omega⟩
  · obtain ⟨r, ha, hb, hp⟩ := dir_loop es a b c bl (by omega) hs es.length 0 (by omega) (fun j _ hj => by omega)
    exact ⟨r, Ev.im h6 ha, Ev.im h6 hb, hp⟩
/-- files -/
structure FileOK (f1 f2 : Int) (bl : List Int) : Prop where
  links : 1 ≤ f1 ∧ f1 ≤ 60
  size : 0 ≤ f2 ∧ f2 ≤ 32
  len : (bl.length : Int) = (f2 + 7) / 8
  rng : ∀ b ∈ bl, 0 ≤ b ∧ b ≤ 19
  nd : bl.Nodup
theorem bf_eq (a : Int) (h0 : 0 ≤ a) (h1 : a ≤ 32) : wrap64 (Int.tdiv (wrap64 ((wrap64 (a + 8)) - 1)) 8) = (a + 7) / 8 := by
  rw [w64_id (a + 8) (by omega) (by omega), w64_id (a + 8 - 1) (by omega) (by omega), Int.tdiv_eq_ediv_of_nonneg (by omega), w64_id _ (by omega) (by omega)]
  congr 1
  omega
theorem idxf_ev (bl : List Int) (hl : bl.length ≤ 4611686018427387904) : ∀ (d i : Nat), bl.length = i + d →
    ∃ m, Ev (fun k => q1n.l0 k bl (bl.length : Int) (i : Int)) m ∧ ((bl.drop i).all (fun b => inB b 0 19) = true → m = -1) ∧ ((bl.drop i).all (fun b => inB b 0 19) = false → 0 ≤ m) := by
  intro d
  induction d with
  | zero =>
    intro i he
    exact ⟨-1, Ev.step (fun k => q1n.l0.eq_2 ..) (Ev.im (by omega) (Ev.now _)), fun _ => rfl, fun h => by rw [List.drop_of_length_le (by omega)] at h; simp at h⟩
  | succ d ih =>
    intro i he
    have hi : i < bl.length := by omega
    have hx := rd_eq bl i hi
    have hd : bl.drop i = rd bl i :: bl.drop (i + 1) := by rw [hx]; exact List.drop_eq_getElem_cons hi
    rw [hd, List.all_cons]
    have hf : ∀ k : Nat, qa.f (rd bl i) = some (!inB (rd bl i) 0 19) := fun _ => by unfold qa.f; rw [within_eq]; rfl
    cases hin : inB (rd bl (i : Int)) 0 19 with
    | false =>
      rw [hin] at hf
      exact ⟨i, Ev.step (fun k => q1n.l0.eq_2 ..) (Ev.ip (by omega) (Ev.ip (by omega) (Ev.ip (by omega) (Ev.bind (Ev.val hf) (Ev.ip rfl (Ev.now _)))))), fun h => by simp at h, fun _ => by omega⟩
    | true =>
      obtain ⟨m, ha, h1, h2⟩ := ih (i + 1) (by omega)
      rw [hin] at hf
      rw [← w1 i (by omega)] at ha
      exact ⟨m, Ev.step (fun k => q1n.l0.eq_2 ..) (Ev.ip (by omega) (Ev.ip (by omega) (Ev.ip (by omega) (Ev.bind (Ev.val hf) (Ev.im (by simp) ha))))), by simpa using h1, by simpa using h2⟩
theorem contf_ev (bl : List Int) (hl : bl.length ≤ 4611686018427387904) : Ev (fun k => q1k.f k bl) (!bl.all (fun b => inB b 0 19)) := by
  obtain ⟨m, ha, h1, h2⟩ := idxf_ev bl hl bl.length 0 (by omega)
  unfold q1k.f q1n.f
  refine Ev.bind (a := m) ha (Ev.val fun _ => ?_)
  rw [List.drop_zero] at h1 h2
  cases h : bl.all (fun b => inB b 0 19) with
  | true => rw [h1 h]; simp
  | false => have := h2 h; simp; omega
theorem idx_ev (bl : List Int) (a : Int) (hl : bl.length ≤ 4611686018427387904) : ∀ (d i : Nat), bl.length = i + d →
    ∃ m, Ev (fun k => q1o.l0 k bl a (bl.length : Int) (i : Int)) m ∧ (a ∈ bl.drop i → 0 ≤ m) ∧ (a ∉ bl.drop i → m = -1) := by
  intro d
  induction d with
  | zero =>
    intro i he
    exact ⟨-1, Ev.step (fun k => q1o.l0.eq_2 ..) (Ev.im (by omega) (Ev.now _)), fun h => by rw [List.drop_of_length_le (by omega)] at h; simp at h, fun _ => rfl⟩
  | succ d ih =>
    intro i he
    have hi : i < bl.length := by omega
    have hx := rd_eq bl i hi
    have hd : bl.drop i = rd bl i :: bl.drop (i + 1) := by rw [hx]; exact List.drop_eq_getElem_cons hi
    rw [hd]
    by_cases e : a = rd bl (i : Int)
    · exact ⟨i, Ev.step (fun k => q1o.l0.eq_2 ..) (Ev.ip (by omega) (Ev.ip (by omega) (Ev.ip (by omega) (Ev.ip e (Ev.now _))))), fun _ => by omega, fun h => by simp [e] at h⟩
    · obtain ⟨m, ha, h1, h2⟩ := ih (i + 1) (by omega)
      rw [← w1 i (by omega)] at ha
      exact ⟨m, Ev.step (fun k => q1o.l0.eq_2 ..) (Ev.ip (by omega) (Ev.ip (by omega) (Ev.ip (by omega) (Ev.im e ha)))), fun h => h1 (by simpa [e] using h), fun h => h2 (by simpa [e] using h)⟩
theorem cont_ev (bl : List Int) (a : Int) (hl : bl.length ≤ 4611686018427387904) : Ev (fun k => q1l.f k bl a) (decide (a ∈ bl)) := by
  obtain ⟨m, ha, h1, h2⟩ := idx_ev bl a hl bl.length 0 (by omega)
  unfold q1l.f q1o.f
  refine Ev.bind (a := m) ha (Ev.val fun _ => ?_)
  rw [List.drop_zero] at h1 h2
  by_cases h : a ∈ bl
  · have := h1 h; simp [h]; omega
  · rw [h2 h]; simp [h]
section
variable (a b c : Int) (bl : List Int) (es : List S143)
theorem l4File_l0_ok (hl : bl.length ≤ 4611686018427387904) {R : Int × Int × Int × Int} (hR : Ev (fun k => q1w.l1 k 0 a b c bl es) R) : ∀ (d i : Nat), bl.length = i + d → (bl.drop i).all (fun b => inB b 0 19) = true → Ev (fun k => q1w.l0 k (i : Int) a b c bl es) R := by
  intro d
  induction d with
  | zero => exact fun i he _ => Ev.step (fun k => q1w.l0.eq_2 ..) (Ev.im (by omega) hR)
  | succ d ih =>
    intro i he hal
    have hi : i < bl.length := by omega
    rw [show bl.drop i = rd bl i :: bl.drop (i + 1) by rw [rd_eq bl i hi]; exact List.drop_eq_getElem_cons hi, List.all_cons, Bool.and_eq_true] at hal
    have ha := ih (i + 1) (by omega) hal.2
    rw [← w1 i (by omega)] at ha
    exact Ev.step (fun k => q1w.l0.eq_2 ..) (Ev.ip (by omega) (Ev.ip (by omega) (Ev.bind (Ev.val fun _ => l1In_eq ..) (Ev.ip hal.1 ha))))
theorem l4File_l0_no (hl : bl.length ≤ 4611686018427387904) : ∀ (d i : Nat), bl.length = i + d → (bl.drop i).all (fun b => inB b 0 19) = false → Ev (fun k => q1w.l0 k (i : Int) a b c bl es) (3, a, b, c) := by
  intro d
  induction d with
  | zero => exact fun i he h => by rw [List.drop_of_length_le (by omega)] at h; simp at h
  | succ d ih =>
    intro i he hal
    have hi : i < bl.length := by omega
    rw [show bl.drop i = rd bl i :: bl.drop (i + 1) by rw [rd_eq bl i hi]; exact List.drop_eq_getElem_cons hi, List.all_cons] at hal
    cases hin : inB (rd bl (i : Int)) 0 19 with
    | false => exact Ev.step (fun k => q1w.l0.eq_2 ..) (Ev.ip (by omega) (Ev.ip (by omega) (Ev.bind (Ev.val fun _ => l1In_eq ..) (Ev.im (by rw [hin]; simp) (Ev.now _)))))
    | true =>
      have ha := ih (i + 1) (by omega) (by simpa [hin] using hal)
      rw [← w1 i (by omega)] at ha
      exact Ev.step (fun k => q1w.l0.eq_2 ..) (Ev.ip (by omega) (Ev.ip (by omega) (Ev.bind (Ev.val fun _ => l1In_eq ..) (Ev.ip hin ha))))
theorem l4File_l2 (hl : bl.length ≤ 4611686018427387904) (i : Nat) (hi : i < bl.length) {R : Int × Int × Int × Int} : ∀ (d j : Nat), i = j + d →
    (rd bl (i : Int) ∈ (bl.take i).drop j → Ev (fun k => q1w.l2 k (i : Int) (j : Int) a b c bl es) (7, a, b, c)) ∧
    (rd bl (i : Int) ∉ (bl.take i).drop j → Ev (fun k => q1w.l1 k ((i + 1 : Nat) : Int) a b c bl es) R → Ev (fun k => q1w.l2 k (i : Int) (j : Int) a b c bl es) R) := by
  intro d
  induction d with
  | zero =>
    intro j he
    refine ⟨fun h => ?_, fun _ hR => ?_⟩
    · rw [List.drop_of_length_le (by simp; omega)] at h
      simp at h
    · rw [← w1 i (by omega)] at hR
      exact Ev.step (fun k => q1w.l2.eq_2 ..) (Ev.im (by omega) hR)
  | succ d ih =>
    intro j he
    have hj : j < bl.length := by omega
    have hjt : j < (bl.take i).length := by simp; omega
    have hd : (bl.take i).drop j = rd bl j :: (bl.take i).drop (j + 1) := by
      rw [rd_eq bl j hj, List.drop_eq_getElem_cons hjt]
      simp
    rw [hd]
    obtain ⟨h1, h2⟩ := ih (j + 1) (by omega)
    rw [← w1 j (by omega)] at h1 h2
    by_cases e : rd bl (j : Int) = rd bl (i : Int)
    · exact ⟨fun _ => Ev.step (fun k => q1w.l2.eq_2 ..) (Ev.ip (by omega) (Ev.ip (by omega) (Ev.ip (by omega) (Ev.ip (by omega) (Ev.ip (by omega) (Ev.ip e (Ev.now _))))))), fun h => by simp [e] at h⟩
    · exact ⟨fun h => Ev.step (fun k => q1w.l2.eq_2 ..) (Ev.ip (by omega) (Ev.ip (by omega) (Ev.ip (by omega) (Ev.ip (by omega) (Ev.ip (by omega) (Ev.im e (h1 (by simpa [Ne.symm e] using h)))))))), fun h hR => Ev.step (fun k => q1w.l2.eq_2 ..) (Ev.ip (by omega) (Ev.ip (by omega) (Ev.ip (by omega) (Ev.ip (by omega) (Ev.ip (by omega) (Ev.im e (h2 (by simpa [Ne.symm e] using h) hR)))))))⟩
theorem file_loop (hl : bl.length ≤ 4611686018427387904) : ∀ (d i : Nat), bl.length = i + d → (bl.take i).Nodup →
    ∃ r, Ev (fun k => q9.l0 k bl (bl.length : Int) (i : Int) a b c bl es) r ∧ Ev (fun k => q1w.l1 k (i : Int) a b c bl es) (r, a, b, c) ∧ (r = 0 → bl.Nodup) := by
  intro d
  induction d with
  | zero =>
    intro i he hn
    rw [List.take_of_length_le (by omega)] at hn
    exact ⟨0, Ev.step (fun k => q9.l0.eq_2 ..) (Ev.im (by omega) (Ev.now _)), Ev.step (fun k => q1w.l1.eq_2 ..) (Ev.im (by omega) (Ev.now _)), fun _ => hn⟩
  | succ d ih =>
    intro i he hn
    have hi : i < bl.length := by omega
    have hc := cont_ev (bl.take i) (rd bl (i : Int)) (by simp; omega)
    have h2 := fun R => l4File_l2 a b c bl es hl i hi (R := R)
    by_cases hm : rd bl (i : Int) ∈ bl.take i
    · have h7 := (h2 (7, a, b, c) i 0 (by omega)).1 (by simpa using hm)
      exact ⟨7, Ev.step (fun k => q9.l0.eq_2 ..) (Ev.ip (by omega) (Ev.ip (by omega) (Ev.ip (by omega) (Ev.ip (by omega) (Ev.bind hc (Ev.ip (by simpa using hm) (Ev.now _))))))), Ev.step (fun k => q1w.l1.eq_2 ..) (Ev.ip (by omega) h7), by omega⟩
    · obtain ⟨r, ha, hb, hp⟩ := ih (i + 1) (by omega) (by
        rw [List.take_succ_eq_append_getElem hi, List.nodup_append]
        refine ⟨hn, by simp, fun x hx y hy => ?_⟩
        rw [rd_eq bl i hi] at hm
        rw [List.mem_singleton.1 hy]
        exact fun e => hm (e ▸ hx))
      have h7 := (h2 (r, a, b, c) i 0 (by omega)).2 (by simpa using hm) hb
      rw [← w1 i (by omega)] at ha
      exact ⟨r, Ev.step (fun k => q9.l0.eq_2 ..) (Ev.ip (by omega) (Ev.ip (by omega) (Ev.ip (by omega) (Ev.ip (by omega) (Ev.bind hc (Ev.im (by simpa using hm) ha)))))), Ev.step (fun k => q1w.l1.eq_2 ..) (Ev.ip (by omega) h7), hp⟩
theorem file_both (hl : bl.length ≤ 4611686018427387904) :
    ∃ r, Ev (fun k => q9.f k a b c bl es) r ∧ Ev (fun k => q1w.f k a b c bl es) (r, a, b, c) ∧ (r = 0 → FileOK b c bl) := by
  unfold q9.f q1w.f
  cases h1 : inB b 1 60 with
  | false => exact ⟨3, Ev.bind (Ev.val fun _ => within_eq ..) (Ev.im (by rw [h1]; simp) (Ev.step (fun k => q9.j0.eq_2 ..) (Ev.ip rfl (Ev.now _)))), Ev.bind (Ev.val fun _ => l1In_eq ..) (Ev.im (by rw [h1]; simp) (Ev.step (fun k => q1w.j0.eq_2 ..) (Ev.ip rfl (Ev.now _)))), by omega⟩
  | true =>
    have hs : ∀ k : Nat, q1y.f c = some (inB c 0 32) := fun _ => by unfold q1y.f; rw [l1In_eq]; rfl
    cases h2 : inB c 0 32 with
    | false => exact ⟨3, Ev.bind (Ev.val fun _ => within_eq ..) (Ev.ip h1 (Ev.bind (Ev.val fun _ => within_eq ..) (Ev.step (fun k => q9.j0.eq_2 ..) (Ev.ip (by rw [h2]; rfl) (Ev.now _))))), Ev.bind (Ev.val fun _ => l1In_eq ..) (Ev.ip h1 (Ev.bind (Ev.val hs) (Ev.step (fun k => q1w.j0.eq_2 ..) (Ev.ip (by rw [h2]; rfl) (Ev.now _))))), by omega⟩
    | true =>
      have hb1 : 1 ≤ b ∧ b ≤ 60 := by simpa [inB] using h1
      have hb2 : 0 ≤ c ∧ c ≤ 32 := by simpa [inB] using h2
      by_cases h3 : (bl.length : Int) = wrap64 (Int.tdiv (wrap64 ((wrap64 (c + 8)) - 1)) 8)
      case neg => exact ⟨1, Ev.bind (Ev.val fun _ => within_eq ..) (Ev.ip h1 (Ev.bind (Ev.val fun _ => within_eq ..) (Ev.step (fun k => q9.j0.eq_2 ..) (Ev.im (by rw [h2]; simp) (Ev.bind (Ev.val fun _ => rfl) (Ev.bind (Ev.val fun _ => rfl) (Ev.im h3 (Ev.now _)))))))), Ev.bind (Ev.val fun _ => l1In_eq ..) (Ev.ip h1 (Ev.bind (Ev.val hs) (Ev.step (fun k => q1w.j0.eq_2 ..) (Ev.im (by rw [h2]; simp) (Ev.bind (Ev.val fun _ => rfl) (Ev.im h3 (Ev.now _))))))), by omega⟩
      have hcf := contf_ev bl hl
      cases h4 : bl.all (fun b => inB b 0 19) with
      | false =>
        have hn := l4File_l0_no a b c bl es hl bl.length 0 (by omega) (by simpa using h4)
        rw [h4] at hcf
        exact ⟨3, Ev.bind (Ev.val fun _ => within_eq ..) (Ev.ip h1 (Ev.bind (Ev.val fun _ => within_eq ..) (Ev.step (fun k => q9.j0.eq_2 ..) (Ev.im (by rw [h2]; simp) (Ev.bind (Ev.val fun _ => rfl) (Ev.bind (Ev.val fun _ => rfl) (Ev.ip h3 (Ev.bind hcf (Ev.ip rfl (Ev.now _)))))))))), Ev.bind (Ev.val fun _ => l1In_eq ..) (Ev.ip h1 (Ev.bind (Ev.val hs) (Ev.step (fun k => q1w.j0.eq_2 ..) (Ev.im (by rw [h2]; simp) (Ev.bind (Ev.val fun _ => rfl) (Ev.ip h3 hn)))))), by omega⟩
      | true =>
        obtain ⟨r, ha, hb, hp⟩ := file_loop a b c bl es hl bl.length 0 (by omega) (by simp)
        have hn := l4File_l0_ok a b c bl es hl hb bl.length 0 (by omega) (by simpa using h4)
        rw [h4] at hcf
        refine ⟨r, Ev.bind (Ev.val fun _ => within_eq ..) (Ev.ip h1 (Ev.bind (Ev.val fun _ => within_eq ..) (Ev.step (fun k => q9.j0.eq_2 ..) (Ev.im (by rw [h2]; simp) (Ev.bind (Ev.val fun _ => rfl) (Ev.bind (Ev.val fun _ => rfl) (Ev.ip h3 (Ev.bind hcf (Ev.im (by simp) ha))))))))), Ev.bind (Ev.val fun _ => l1In_eq ..) (Ev.ip h1 (Ev.bind (Ev.val hs) (Ev.step (fun k => q1w.j0.eq_2 ..) (Ev.im (by rw [h2]; simp) (Ev.bind (Ev.val fun _ => rfl) (Ev.ip h3 hn)))))), fun h0 => ⟨hb1, hb2, ?_, fun x hx => ?_, hp h0⟩⟩
        · rw [h3, bf_eq c hb2.1 hb2.2]
        · have := List.all_eq_true.1 h4 x hx
          simpa [inB] using this
end
/-- inodes -/
def InodeOK (x : S86) : Prop := (x.f0 = 1 ∧ FileOK x.f1 x.f2 x.f3 ∧ x.f4 = []) ∨ (x.f0 = 2 ∧ x.f1 = 0 ∧ x.f2 = 0 ∧ x.f3 = [] ∧ DirOK x.f4) ∨ (x.f0 = 0 ∧ x.f1 = 0 ∧ x.f2 = 0 ∧ x.f3 = [] ∧ x.f4 = [])
end Go.Proofs.YtafhjhdohclchaaGreatDoor.G
