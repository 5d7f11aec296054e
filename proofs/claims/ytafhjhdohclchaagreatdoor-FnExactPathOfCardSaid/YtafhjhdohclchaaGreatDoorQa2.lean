/- Contracts of functions, words and pure lemmas that a statement reaches (part 2); conditions: each theorem's own hypotheses. -/
import Derived.Test.YtafhjhdohclchaaGreatDoorProg
import Derived.Below
import Derived.Deep.Draws
import Derived.Deep.AppendLies
import Derived.Maps.AppendAt
import Derived.OwnWalk
import Derived.Laws.BytesArg
import Derived.Laws.MakeOwn
import Derived.Laws.OwnMore
import Derived.Deep.OwnRows
import Derived.Tactics
import Derived.Lib.ConvBytes
import Derived.Laws.Slices
import Derived.WalkKit
import Derived.KernelRfl
import Derived.RowKit3
import Derived.Deep.LoopGhost
import Derived.Deep.QuietTactic
import Derived.BigQuiet
import Derived.WideLaws
import Derived.Deep.DeepCutAuto
import Derived.Deep.CutBlock
import Derived.Deep.RegionHeld3
import Derived.Laws.Rows
import Derived.Lib.AppendStr
import Derived.ArgAppend
import Derived.Laws.IdiomCopy
import Derived.OrdersHeld
import Derived.Laws.BitsLemmas
import Derived.RowKit
import Derived.Laws.Cover1
import Derived.Shelf.Strings.Builder1
import Derived.Shelf.Strings.Builder2
import Derived.Shelf.Strings.OnBuilder
import Derived.Shelf.Small.Bits
import Derived.Shelf.Strings.BuilderF
import Derived.Shelf.Strings.BuilderK
import Derived.Shelf.Utf8.RuneCount
import Derived.Shelf.Strings.Builder2Cap
import Derived.Shelf.Strconv.Itoa0
import Derived.Shelf.Strconv.Itoa1
import Derived.Shelf.LaysM
import Derived.Shelf.Strconv.Itoa2
import Derived.Shelf.Strconv.Itoa3
import Derived.Shelf.Strconv.Itoa4
import Derived.Shelf.Strings.Search1
import Derived.Shelf.Strings.Search2
import Derived.Shelf.Strings.Search3
import Derived.Shelf.Strings.Count
import Derived.Shelf.Strings.Shaped
import Derived.Shelf.Strings.Prefix
import Derived.Shelf.Strings.Split
import Derived.Shelf.Strings.SplitShaped
import Derived.Shelf.Unicode.Decode
import Derived.Shelf.Strings.RuneCount
import Derived.Shelf.Strings.Explode
import Derived.Shelf.Unicode.DecodeSlow
import Derived.Shelf.Unicode.DecodeAny
import Derived.Shelf.Strings.BuilderCap
import Derived.Shelf.Bytes.SlSearch0
import Derived.Ground.SlgnProg
import Derived.Shelf.SlicesG.CompactI
import Derived.Shelf.SlicesE.Clone
import Derived.Ground.SlgmProg
import Derived.Shelf.SortM.Plain
import Derived.Shelf.SortM.SortNone
import Derived.Shelf.Bytes.Small
import Derived.Laws.CopyOwn
import Derived.Laws.Tables
import Derived.Test.YtafhjhdohclchaaGreatDoorQa1
set_option linter.unusedVariables false
set_option linter.unusedSimpArgs false
namespace Go.Proofs.YtafhjhdohclchaaGreatDoor.G
open Go.RowKit Go.Proofs.YtafhjhdohclchaaGreatDoorW.PrintWords Go.Proofs.YtafhjhdohclchaaGreatDoorW.PrintLast Go.Proofs.YtafhjhdohclchaaGreatDoorW.PrintMore
attribute [local go_sem] min2_int min_two
section
variable {P : Program} {ops : Array Oper} {Q : Exit → Act → World → Prop}
theorem gate_calleeT {rest : List Oper} {o : Oper} {a : Act} {W : World} {t : Tmp} {args_ : Array Operand} {ts : Array TypeId} (_ho : o.op = .call { callee := .value (.tmp t), args := args_, argTypes := ts }) (h : wpList P ops Q (o :: rest) a W) : wpList P ops Q (o :: rest) a W := h
theorem goesT_ {rest : List Oper} {oi : Oper} {a : Act} {w : World} (N : Option Tmp) (hd : oi.dst = N) (hg : oi.guard = none) {f : FuncId} {fn : Func} {t : Tmp} {args_ : Array Operand} {ts : Array TypeId} (hf : P.funcs[f]? = some fn) (hname : (fn.name == "runtime.NumGoroutine") = false) (hb : fn.body.isSome = true) (args : Array Value)
    (hop : oi.op = .call { callee := .value (.tmp t), args := args_, argTypes := ts }) (hargs : args_.map a.eval = args)
    (h : Calls P f args w fun e w' => ∃ v, e = .returned v ∧ wpList P ops Q rest (a.put N v) w') (hc : a.eval (.tmp t) = .func (.func f) #[] #[] := by rfl) : wpList P ops Q (oi :: rest) a w := by
  refine wpList_plain hg fun K hK => ?_
  have he := enters_ hf hname hb args w
  have hrun : (execOp a.eval oi).run P w = .ok (.enter f args) w := by
    unfold execOp
    have hc' := hc
    simp only [Act.eval] at hc'
    simp [hop, resolve, Deferred.ofValue, invoke, Act.eval, hc', hargs, he]
  unfold Oper.wp
  rw [hrun, Oper.upon_enter]
  refine h.mono ?_
  rintro e w' ⟨v, rfl, hv⟩
  rw [hd]
  exact hK _ _ hv
end
theorem bytesLess_turn : ∀ a b : List UInt8, (Op.bytesLess a b || a == b) = !(Op.bytesLess b a)
  | [], [] => rfl
  | [], _ :: _ => rfl
  | _ :: _, [] => rfl
  | a :: x, b :: y => by
    have ih := bytesLess_turn x y
    simp only [Op.bytesLess]
    by_cases h1 : a = b
    · subst h1
      have h2 : decide (a < a) = false := by simp
      have h3 : ((a :: x) == (a :: y)) = (x == y) := by simp
      rw [h2, h3]
      simpa using ih
    · have h2 : (a == b) = false := by simpa using h1
      have h3 : (b == a) = false := by simpa using fun e : b = a => h1 e.symm
      have h4 : ((a :: x) == (b :: y)) = false := by simp [h1]
      rw [h2, h3, h4]
      have h5 : a < b ↔ ¬ b < a := ⟨fun h => UInt8.not_lt.2 (UInt8.le_of_lt h), fun h => UInt8.lt_of_le_of_ne (UInt8.not_lt.1 h) h1⟩
      by_cases h6 : b < a <;> simp [h5, h6]
theorem sl_take {α : Type} {A : Option Addr} {c : Nat} {l : List α} {i : Int} (h : i < (l.length : Int)) : Value.slice A i.toNat c = Value.slice A (l.take i.toNat).length c := by rw [List.length_take, Nat.min_eq_left (by omega)]
theorem str_leq (t : TypeId) (a b : ByteArray) : binOp .leq t (.string a) (.string b) = pure (.bool !(Op.bytesLess b.toList a.toList)) := by rw [binOp_string_leq, bytesLess_turn]
theorem info2 : (Tryz.prog.info? 2).map (fun i => (i.zero, i.size, i.bytes)) = some (some (.int .i64 0), 1, 8) := by kernel_rfl
theorem info4 : (Tryz.prog.info? 4).map (fun i => (i.zero, i.size, i.bytes)) = some (some (.bool false), 1, 1) := by kernel_rfl
theorem info5 : (Tryz.prog.info? 5).map (fun i => (i.zero, i.size, i.bytes)) = some (some (.int .u8 0), 1, 1) := by kernel_rfl
theorem info9 : (Tryz.prog.info? 9).map (fun i => (i.zero, i.size, i.bytes)) = some (some (.string ⟨#[]⟩), 1, 16) := by kernel_rfl
theorem info22 : (Tryz.prog.info? 22).map (fun i => (i.zero, i.size, i.bytes)) = some (some (.slice none 0 0), 1, 24) := by kernel_rfl
theorem info86 : (Tryz.prog.info? 86).map (fun i => (i.zero, i.size, i.bytes)) = some (some (.agg #[(.int .i64 0), (.int .i64 0), (.int .i64 0), (.slice none 0 0), (.slice none 0 0)]), 5, 72) := by kernel_rfl
theorem info143 : (Tryz.prog.info? 143).map (fun i => (i.zero, i.size, i.bytes)) = some (some (.agg #[(.string ⟨#[]⟩), (.int .i64 0)]), 2, 24) := by kernel_rfl
def rd_L1 (xs : List (List Int)) (i : Int) : (List Int) := xs.getD i.toNat ([] : List Int)
theorem at_L1 {w : World} {A : Option Addr} {n : Nat} {xs : List (List Int)} (h : Kd.C (Kd.slice 5 (Kd.int .u8)) w A n xs) (i : Int) (h0 : 0 ≤ i) (h1 : i < n) : ∃ ad A0 c0, A = some ad ∧ w.cell? (ad.add i.toNat) = some (.slice A0 (rd_L1 xs i).length c0) ∧ (rd_L1 xs i).length ≤ c0 ∧ (Kd.int .u8).C w A0 (rd_L1 xs i).length (rd_L1 xs i) := by
  obtain ⟨ad, c, e, _, hK, hc0⟩ := Kd.C_get h ([] : List Int) i h0 h1
  have hc : ∀ j u, c[j]? = some u → w.cell? (ad.add (i.toNat * 1 + j)) = some u := hc0
  obtain ⟨A0, c0, rfl, l0, g0⟩ := hK
  exact ⟨ad, A0, c0, e, by have hq := hc 0 _ rfl; rwa [Nat.mul_one, Nat.add_zero] at hq, l0, g0⟩
structure S143 where
  f0 : ByteArray
  f1 : Int
def z143 : S143 := ⟨(⟨#[]⟩ : ByteArray), (0 : Int)⟩
def k143 : Kd S143 := Kd.iso (Kd.pair Kd.string (Kd.int .i64)) (fun x : S143 => (x.f0, x.f1))
theorem k143_open {w : World} {x : S143} {cs : List Value} (h : k143.K w x cs) : cs = [.string x.f0, .int .i64 x.f1] := by
  obtain ⟨_, _, rfl, rfl, rfl⟩ := h
  exact rfl
theorem k143_openM {w : World} {base : Nat} {ok : Nat → Prop} {x : S143} {cs : List Value} (h : k143.M w base ok x cs) : cs = [.string x.f0, .int .i64 x.f1] := by
  obtain ⟨_, _, rfl, rfl, rfl⟩ := h
  exact rfl
theorem k143_mkM (w : World) (base : Nat) (ok : Nat → Prop) (x : S143)  : k143.M w base ok x [.string x.f0, .int .i64 x.f1] := ⟨[.string x.f0], [.int .i64 x.f1], rfl, rfl, rfl⟩
def rd_T143 (xs : List S143) (i : Int) : S143 := xs.getD i.toNat z143
theorem at_T143 {w : World} {A : Option Addr} {n : Nat} {xs : List S143} (h : Kd.C k143 w A n xs) (i : Int) (h0 : 0 ≤ i) (h1 : i < n) : ∃ ad , A = some ad ∧ w.cell? (ad.add (i.toNat * 2)) = some (.string (rd_T143 xs i).f0) ∧ w.cell? ⟨(ad.add (i.toNat * 2)).block, (ad.add (i.toNat * 2)).off + 1, none⟩ = some (.int .i64 (rd_T143 xs i).f1) := by
  obtain ⟨ad, c, e, _, hK, hc0⟩ := Kd.C_get h z143 i h0 h1
  have hc : ∀ j u, c[j]? = some u → w.cell? (ad.add (i.toNat * 2 + j)) = some u := hc0
  obtain rfl := k143_open hK
  exact ⟨ad, e, hc 0 _ rfl, by rw [← add_field _ _ 1 (by omega)]; exact hc 1 _ rfl⟩
structure S86 where
  f0 : Int
  f1 : Int
  f2 : Int
  f3 : (List Int)
  f4 : (List S143)
def z86 : S86 := ⟨(0 : Int), (0 : Int), (0 : Int), ([] : List Int), ([] : List S143)⟩
def k86 : Kd S86 := Kd.iso (Kd.pair (Kd.int .i64) (Kd.pair (Kd.int .i64) (Kd.pair (Kd.int .i64) (Kd.pair (Kd.slice 2 (Kd.int .i64)) (Kd.slice 143 k143))))) (fun x : S86 => (x.f0, x.f1, x.f2, x.f3, x.f4))
theorem k86_open {w : World} {x : S86} {cs : List Value} (h : k86.K w x cs) : ∃ A3 c3 A4 c4, cs = [.int .i64 x.f0, .int .i64 x.f1, .int .i64 x.f2, .slice A3 x.f3.length c3, .slice A4 x.f4.length c4] ∧ x.f3.length ≤ c3 ∧ (Kd.int .i64).C w A3 x.f3.length x.f3 ∧ x.f4.length ≤ c4 ∧ k143.C w A4 x.f4.length x.f4 := by
  obtain ⟨_, _, rfl, rfl, ⟨_, _, rfl, rfl, ⟨_, _, rfl, rfl, ⟨_, _, rfl, ⟨A3, c3, rfl, l3, g3⟩, ⟨A4, c4, rfl, l4, g4⟩⟩⟩⟩⟩ := h
  exact ⟨A3, c3, A4, c4, rfl, l3, g3, l4, g4⟩
theorem k86_openM {w : World} {base : Nat} {ok : Nat → Prop} {x : S86} {cs : List Value} (h : k86.M w base ok x cs) : ∃ v3 v4, cs = [.int .i64 x.f0, .int .i64 x.f1, .int .i64 x.f2, v3, v4] ∧ (Kd.int .i64).R 2 w base ok v3 x.f3 ∧ k143.R 143 w base ok v4 x.f4 := by
  obtain ⟨_, _, rfl, rfl, ⟨_, _, rfl, rfl, ⟨_, _, rfl, rfl, ⟨_, _, rfl, ⟨v3, rfl, g3⟩, ⟨v4, rfl, g4⟩⟩⟩⟩⟩ := h
  exact ⟨v3, v4, rfl, g3, g4⟩
theorem k86_mkM (w : World) (base : Nat) (ok : Nat → Prop) (x : S86) {v3 : Value} (g3 : (Kd.int .i64).R 2 w base ok v3 x.f3) {v4 : Value} (g4 : k143.R 143 w base ok v4 x.f4) : k86.M w base ok x [.int .i64 x.f0, .int .i64 x.f1, .int .i64 x.f2, v3, v4] := ⟨[.int .i64 x.f0], [.int .i64 x.f1, .int .i64 x.f2, v3, v4], rfl, rfl, ⟨[.int .i64 x.f1], [.int .i64 x.f2, v3, v4], rfl, rfl, ⟨[.int .i64 x.f2], [v3, v4], rfl, rfl, ⟨[v3], [v4], rfl, ⟨v3, rfl, g3⟩, ⟨v4, rfl, g4⟩⟩⟩⟩⟩
def rd_T86 (xs : List S86) (i : Int) : S86 := xs.getD i.toNat z86
theorem at_T86 {w : World} {A : Option Addr} {n : Nat} {xs : List S86} (h : Kd.C k86 w A n xs) (i : Int) (h0 : 0 ≤ i) (h1 : i < n) : ∃ ad A3 c3 A4 c4, A = some ad ∧ w.cell? (ad.add (i.toNat * 5)) = some (.int .i64 (rd_T86 xs i).f0) ∧ w.cell? ⟨(ad.add (i.toNat * 5)).block, (ad.add (i.toNat * 5)).off + 1, none⟩ = some (.int .i64 (rd_T86 xs i).f1) ∧ w.cell? ⟨(ad.add (i.toNat * 5)).block, (ad.add (i.toNat * 5)).off + 2, none⟩ = some (.int .i64 (rd_T86 xs i).f2) ∧ w.cell? ⟨(ad.add (i.toNat * 5)).block, (ad.add (i.toNat * 5)).off + 3, none⟩ = some (.slice A3 (rd_T86 xs i).f3.length c3) ∧ w.cell? ⟨(ad.add (i.toNat * 5)).block, (ad.add (i.toNat * 5)).off + 4, none⟩ = some (.slice A4 (rd_T86 xs i).f4.length c4) ∧ (rd_T86 xs i).f3.length ≤ c3 ∧ (Kd.int .i64).C w A3 (rd_T86 xs i).f3.length (rd_T86 xs i).f3 ∧ (rd_T86 xs i).f4.length ≤ c4 ∧ k143.C w A4 (rd_T86 xs i).f4.length (rd_T86 xs i).f4 := by
  obtain ⟨ad, c, e, _, hK, hc0⟩ := Kd.C_get h z86 i h0 h1
  have hc : ∀ j u, c[j]? = some u → w.cell? (ad.add (i.toNat * 5 + j)) = some u := hc0
  obtain ⟨A3, c3, A4, c4, rfl, l3, g3, l4, g4⟩ := k86_open hK
  exact ⟨ad, A3, c3, A4, c4, e, hc 0 _ rfl, by rw [← add_field _ _ 1 (by omega)]; exact hc 1 _ rfl, by rw [← add_field _ _ 2 (by omega)]; exact hc 2 _ rfl, by rw [← add_field _ _ 3 (by omega)]; exact hc 3 _ rfl, by rw [← add_field _ _ 4 (by omega)]; exact hc 4 _ rfl, l3, g3, l4, g4⟩
def rd_L12 (xs : List (List ByteArray)) (i : Int) : (List ByteArray) := xs.getD i.toNat ([] : List ByteArray)
theorem at_L12 {w : World} {A : Option Addr} {n : Nat} {xs : List (List ByteArray)} (h : Kd.C (Kd.slice 9 Kd.string) w A n xs) (i : Int) (h0 : 0 ≤ i) (h1 : i < n) : ∃ ad A0 c0, A = some ad ∧ w.cell? (ad.add i.toNat) = some (.slice A0 (rd_L12 xs i).length c0) ∧ (rd_L12 xs i).length ≤ c0 ∧ Kd.string.C w A0 (rd_L12 xs i).length (rd_L12 xs i) := by
  obtain ⟨ad, c, e, _, hK, hc0⟩ := Kd.C_get h ([] : List ByteArray) i h0 h1
  have hc : ∀ j u, c[j]? = some u → w.cell? (ad.add (i.toNat * 1 + j)) = some u := hc0
  obtain ⟨A0, c0, rfl, l0, g0⟩ := hK
  exact ⟨ad, A0, c0, e, by have hq := hc 0 _ rfl; rwa [Nat.mul_one, Nat.add_zero] at hq, l0, g0⟩
structure S267 where
  f0 : ByteArray
  f1 : Int
def z267 : S267 := ⟨(⟨#[]⟩ : ByteArray), (0 : Int)⟩
def k267 : Kd S267 := Kd.iso (Kd.pair Kd.string (Kd.int .i64)) (fun x : S267 => (x.f0, x.f1))
theorem k267_open {w : World} {x : S267} {cs : List Value} (h : k267.K w x cs) : cs = [.string x.f0, .int .i64 x.f1] := by
  obtain ⟨_, _, rfl, rfl, rfl⟩ := h
  exact rfl
def rd_T267 (xs : List S267) (i : Int) : S267 := xs.getD i.toNat z267
theorem at_T267 {w : World} {A : Option Addr} {n : Nat} {xs : List S267} (h : Kd.C k267 w A n xs) (i : Int) (h0 : 0 ≤ i) (h1 : i < n) : ∃ ad , A = some ad ∧ w.cell? (ad.add (i.toNat * 2)) = some (.string (rd_T267 xs i).f0) ∧ w.cell? ⟨(ad.add (i.toNat * 2)).block, (ad.add (i.toNat * 2)).off + 1, none⟩ = some (.int .i64 (rd_T267 xs i).f1) := by
  obtain ⟨ad, c, e, _, hK, hc0⟩ := Kd.C_get h z267 i h0 h1
  have hc : ∀ j u, c[j]? = some u → w.cell? (ad.add (i.toNat * 2 + j)) = some u := hc0
  obtain rfl := k267_open hK
  exact ⟨ad, e, hc 0 _ rfl, by rw [← add_field _ _ 1 (by omega)]; exact hc 1 _ rfl⟩
structure S159 where
  f0 : Int
  f1 : Int
  f2 : Int
  f3 : (List Int)
  f4 : (List S267)
def z159 : S159 := ⟨(0 : Int), (0 : Int), (0 : Int), ([] : List Int), ([] : List S267)⟩
def k159 : Kd S159 := Kd.iso (Kd.pair (Kd.int .i64) (Kd.pair (Kd.int .i64) (Kd.pair (Kd.int .i64) (Kd.pair (Kd.slice 2 (Kd.int .i64)) (Kd.slice 267 k267))))) (fun x : S159 => (x.f0, x.f1, x.f2, x.f3, x.f4))
theorem k159_open {w : World} {x : S159} {cs : List Value} (h : k159.K w x cs) : ∃ A3 c3 A4 c4, cs = [.int .i64 x.f0, .int .i64 x.f1, .int .i64 x.f2, .slice A3 x.f3.length c3, .slice A4 x.f4.length c4] ∧ x.f3.length ≤ c3 ∧ (Kd.int .i64).C w A3 x.f3.length x.f3 ∧ x.f4.length ≤ c4 ∧ k267.C w A4 x.f4.length x.f4 := by
  obtain ⟨_, _, rfl, rfl, ⟨_, _, rfl, rfl, ⟨_, _, rfl, rfl, ⟨_, _, rfl, ⟨A3, c3, rfl, l3, g3⟩, ⟨A4, c4, rfl, l4, g4⟩⟩⟩⟩⟩ := h
  exact ⟨A3, c3, A4, c4, rfl, l3, g3, l4, g4⟩
def rd_T159 (xs : List S159) (i : Int) : S159 := xs.getD i.toNat z159
theorem at_T159 {w : World} {A : Option Addr} {n : Nat} {xs : List S159} (h : Kd.C k159 w A n xs) (i : Int) (h0 : 0 ≤ i) (h1 : i < n) : ∃ ad A3 c3 A4 c4, A = some ad ∧ w.cell? (ad.add (i.toNat * 5)) = some (.int .i64 (rd_T159 xs i).f0) ∧ w.cell? ⟨(ad.add (i.toNat * 5)).block, (ad.add (i.toNat * 5)).off + 1, none⟩ = some (.int .i64 (rd_T159 xs i).f1) ∧ w.cell? ⟨(ad.add (i.toNat * 5)).block, (ad.add (i.toNat * 5)).off + 2, none⟩ = some (.int .i64 (rd_T159 xs i).f2) ∧ w.cell? ⟨(ad.add (i.toNat * 5)).block, (ad.add (i.toNat * 5)).off + 3, none⟩ = some (.slice A3 (rd_T159 xs i).f3.length c3) ∧ w.cell? ⟨(ad.add (i.toNat * 5)).block, (ad.add (i.toNat * 5)).off + 4, none⟩ = some (.slice A4 (rd_T159 xs i).f4.length c4) ∧ (rd_T159 xs i).f3.length ≤ c3 ∧ (Kd.int .i64).C w A3 (rd_T159 xs i).f3.length (rd_T159 xs i).f3 ∧ (rd_T159 xs i).f4.length ≤ c4 ∧ k267.C w A4 (rd_T159 xs i).f4.length (rd_T159 xs i).f4 := by
  obtain ⟨ad, c, e, _, hK, hc0⟩ := Kd.C_get h z159 i h0 h1
  have hc : ∀ j u, c[j]? = some u → w.cell? (ad.add (i.toNat * 5 + j)) = some u := hc0
  obtain ⟨A3, c3, A4, c4, rfl, l3, g3, l4, g4⟩ := k159_open hK
  exact ⟨ad, A3, c3, A4, c4, e, hc 0 _ rfl, by rw [← add_field _ _ 1 (by omega)]; exact hc 1 _ rfl, by rw [← add_field _ _ 2 (by omega)]; exact hc 2 _ rfl, by rw [← add_field _ _ 3 (by omega)]; exact hc 3 _ rfl, by rw [← add_field _ _ 4 (by omega)]; exact hc 4 _ rfl, l3, g3, l4, g4⟩
end Go.Proofs.YtafhjhdohclchaaGreatDoor.G
namespace Go.Proofs
open Go.Shelf
def Tryz.lays156_ren : Go.Shelf.Ren := ⟨fun | 156 => 284 | 165 => 303 | 166 => 145 | 169 => 148 | 240 => 205 | 241 => 312 | 276 => 253 | 277 => 318 | n => n, fun | 31 => 24 | 9 => 9 | 3 => 3 | 4 => 4 | 0 => 0 | 20 => 20 | 72 => 177 | 76 => 181 | 70 => 175 | 37 => 22 | 75 => 180 | 127 => 235 | 164 => 279 | 5 => 5 | 80 => 120 | n => n, fun | n => n⟩
theorem Tryz.lays156 : Go.Proofs.Lays.n156 Tryz.prog Tryz.lays156_ren := {
  mixed := by kernel_rfl
  f156 := Tryz.func284.trans (congrArg some (by kernel_rfl))
  f165 := Tryz.func303.trans (congrArg some (by kernel_rfl))
  f166 := Tryz.func145.trans (congrArg some (by kernel_rfl))
  f169 := Tryz.func148.trans (congrArg some (by kernel_rfl))
  f240 := Tryz.func205.trans (congrArg some (by kernel_rfl))
  f241 := Tryz.func312.trans (congrArg some (by kernel_rfl))
  f276 := Tryz.func253.trans (congrArg some (by kernel_rfl))
  f277 := Tryz.func318.trans (congrArg some (by kernel_rfl))
  t0 := Tryz.underlying0
  a0 := Tryz.isAgg0
  z0 := Tryz.sizeOf0
  v0 := Tryz.zeroValue0
  t3 := Tryz.underlying3
  a3 := Tryz.isAgg3
  z3 := Tryz.sizeOf3
  v3 := Tryz.zeroValue3
  t4 := Tryz.underlying4
  a4 := Tryz.isAgg4
  z4 := Tryz.sizeOf4
  v4 := Tryz.zeroValue4
  t9 := Tryz.underlying9
  a9 := Tryz.isAgg9
  z9 := Tryz.sizeOf9
  v9 := Tryz.zeroValue9
  t20 := Tryz.underlying20
  a20 := Tryz.isAgg20
  z20 := Tryz.sizeOf20
  v20 := Tryz.zeroValue20
  t31 := Tryz.underlying24
  a31 := Tryz.isAgg24
  z31 := Tryz.sizeOf24
  v31 := Tryz.zeroValue24
  t37 := Tryz.underlying22
  a37 := Tryz.isAgg22
  z37 := Tryz.sizeOf22
  v37 := Tryz.zeroValue22
  t70 := Tryz.underlying175
  a70 := Tryz.isAgg175
  z70 := Tryz.sizeOf175
  v70 := Tryz.zeroValue175
  t72 := Tryz.underlying177
  a72 := Tryz.isAgg177
  z72 := Tryz.sizeOf177
  v72 := Tryz.zeroValue177
  t75 := Tryz.underlying180
  a75 := Tryz.isAgg180
  z75 := Tryz.sizeOf180
  v75 := Tryz.zeroValue180
  t76 := Tryz.underlying181
  a76 := Tryz.isAgg181
  z76 := Tryz.sizeOf181
  v76 := Tryz.zeroValue181
  t127 := Tryz.underlying235
  a127 := Tryz.isAgg235
  z127 := Tryz.sizeOf235
  v127 := Tryz.zeroValue235
  t164 := Tryz.underlying279
  a164 := Tryz.isAgg279
  z164 := Tryz.sizeOf279
  v164 := Tryz.zeroValue279 }
theorem Tryz.Builder_Extra_156 : Builder.Extra Tryz.prog Tryz.lays156_ren := {
  sizeBuilder := by kernel_rfl
  liesBuilder := by kernel_rfl
  t5 := Tryz.underlying5
  a5 := Tryz.isAgg5
  z5 := Tryz.sizeOf5
  v5 := Tryz.zeroValue5
  infoByte := by kernel_rfl
  cellsByte := by kernel_rfl
  sizeByte := by kernel_rfl
  neB5 := by decide }
open Go.RowKit in
/-- No element: the empty string; the world is as it was. (Whatever the slice's address and capacity: a nil slice too.) (LAID: no walk: one application.) -/
theorem Tryz.strings_Join_none (a : Option Addr) (c : Nat) (sep : ByteArray) (w : World) :
    Calls Tryz.prog 284 #[.slice a 0 c, .string sep] w fun e w' => e = .returned (.string ⟨#[]⟩) ∧ w' = w := Any.strings_Join_none Tryz.lays156 Tryz.Builder_Extra_156 a c sep w
open Go.RowKit in
/-- strings.Join: "Join concatenates the elements of its first argument to create a single string. The separator string sep is placed between elements in the resulting string.": HOWEVER MANY ELEMENTS. Below the heap's end the world is as it was. (LAID: no walk: one application.) -/
theorem Tryz.strings_Join (bk o c : Nat) (xs : List ByteArray) (sep : ByteArray) (w : World) (hcells : ∀ (j : Nat) x, xs[j]? = some x → w.cell? ⟨bk, o + j, none⟩ = some (.string x)) (hbk : bk < w.heap.size) (hN : xs.length ≤ 140737488355328) (hcap : xs.length ≤ c) (hlen : (Lib.join (xs.map (·.data.toList)) sep.data.toList).length ≤ 140737488355328) :
    Calls Tryz.prog 284 #[.slice (some ⟨bk, o, none⟩) xs.length c, .string sep] w fun e w' => e = .returned (.string ⟨(Lib.join (xs.map (·.data.toList)) sep.data.toList).toArray⟩) ∧ Below w.heap.size w w' := Any.strings_Join Tryz.lays156 Tryz.Builder_Extra_156 bk o c xs sep w hcells hbk hN hcap hlen
def Tryz.lays219_ren : Go.Shelf.Ren := ⟨fun | 219 => 310 | 217 => 314 | 225 => 315 | 224 => 316 | 267 => 317 | 266 => 319 | 314 => 320 | n => n, fun | 9 => 9 | 3 => 3 | 4 => 4 | 5 => 5 | 46 => 265 | 146 => 334 | 51 => 301 | n => n, fun | 1 => 3 | n => n⟩
def Tryz.lays143_ren : Go.Shelf.Ren := ⟨fun | 143 => 294 | 219 => 310 | 217 => 314 | 225 => 315 | 224 => 316 | 267 => 317 | 266 => 319 | 314 => 320 | n => n, fun | 9 => 9 | 3 => 3 | 4 => 4 | 5 => 5 | 46 => 265 | 146 => 334 | 51 => 301 | n => n, fun | 1 => 3 | n => n⟩
theorem Tryz.lays143 : Go.Proofs.Lays.n143 Tryz.prog Tryz.lays143_ren := {
  mixed := by kernel_rfl
  f143 := Tryz.func294.trans (congrArg some (by kernel_rfl))
  f217 := Tryz.func314.trans (congrArg some (by kernel_rfl))
  f219 := Tryz.func310.trans (congrArg some (by kernel_rfl))
  f224 := Tryz.func316.trans (congrArg some (by kernel_rfl))
  f225 := Tryz.func315.trans (congrArg some (by kernel_rfl))
  f266 := Tryz.func319.trans (congrArg some (by kernel_rfl))
  f267 := Tryz.func317.trans (congrArg some (by kernel_rfl))
  f314 := Tryz.func320.trans (congrArg some (by kernel_rfl))
  t3 := Tryz.underlying3
  a3 := Tryz.isAgg3
  z3 := Tryz.sizeOf3
  v3 := Tryz.zeroValue3
  t4 := Tryz.underlying4
  a4 := Tryz.isAgg4
  z4 := Tryz.sizeOf4
  v4 := Tryz.zeroValue4
  t5 := Tryz.underlying5
  a5 := Tryz.isAgg5
  z5 := Tryz.sizeOf5
  v5 := Tryz.zeroValue5
  t9 := Tryz.underlying9
  a9 := Tryz.isAgg9
  z9 := Tryz.sizeOf9
  v9 := Tryz.zeroValue9
  t46 := Tryz.underlying265
  a46 := Tryz.isAgg265
  z46 := Tryz.sizeOf265
  v46 := Tryz.zeroValue265
  t51 := Tryz.underlying301
  a51 := Tryz.isAgg301
  z51 := Tryz.sizeOf301
  v51 := Tryz.zeroValue301
  t146 := Tryz.underlying334
  a146 := Tryz.isAgg334
  z146 := Tryz.sizeOf334
  v146 := Tryz.zeroValue334
  g1 := by kernel_rfl }
open Go.RowKit Go.Lib in
/-- strings.Index: "Index returns the index of the first instance of substr in s, or -1 if substr is not present in s.": AT A substr OF ONE BYTE c: IT RETURNS 'Lib.indexByte s c'; the world is as it was. (LAID: no walk: one application.) -/
theorem Tryz.strings_Index_one (s : ByteArray) (c : UInt8) (w : World) :
    Calls Tryz.prog 294 #[.string s, .string ⟨#[c]⟩] w fun e w' => e = .returned (.int .i64 (Lib.indexByte s.data.toList c)) ∧ w' = w := Any.strings_Index_one Tryz.lays143 s c w
def Tryz.lays138_ren : Go.Shelf.Ren := ⟨fun | 138 => 293 | 195 => 307 | 218 => 309 | 143 => 294 | 219 => 310 | 217 => 314 | 225 => 315 | 224 => 316 | 267 => 317 | 266 => 319 | 314 => 320 | n => n, fun | 9 => 9 | 3 => 3 | 4 => 4 | 5 => 5 | 0 => 0 | 46 => 265 | 146 => 334 | 51 => 301 | n => n, fun | 1 => 3 | n => n⟩
theorem Tryz.lays138 : Go.Proofs.Lays.n138 Tryz.prog Tryz.lays138_ren := {
  mixed := by kernel_rfl
  f138 := Tryz.func293.trans (congrArg some (by kernel_rfl))
  f143 := Tryz.func294.trans (congrArg some (by kernel_rfl))
  f195 := Tryz.func307.trans (congrArg some (by kernel_rfl))
  f217 := Tryz.func314.trans (congrArg some (by kernel_rfl))
  f218 := Tryz.func309.trans (congrArg some (by kernel_rfl))
  f219 := Tryz.func310.trans (congrArg some (by kernel_rfl))
  f224 := Tryz.func316.trans (congrArg some (by kernel_rfl))
  f225 := Tryz.func315.trans (congrArg some (by kernel_rfl))
  f266 := Tryz.func319.trans (congrArg some (by kernel_rfl))
  f267 := Tryz.func317.trans (congrArg some (by kernel_rfl))
  f314 := Tryz.func320.trans (congrArg some (by kernel_rfl))
  t0 := Tryz.underlying0
  a0 := Tryz.isAgg0
  z0 := Tryz.sizeOf0
  v0 := Tryz.zeroValue0
  t3 := Tryz.underlying3
  a3 := Tryz.isAgg3
  z3 := Tryz.sizeOf3
  v3 := Tryz.zeroValue3
  t4 := Tryz.underlying4
  a4 := Tryz.isAgg4
  z4 := Tryz.sizeOf4
  v4 := Tryz.zeroValue4
  t5 := Tryz.underlying5
  a5 := Tryz.isAgg5
  z5 := Tryz.sizeOf5
  v5 := Tryz.zeroValue5
  t9 := Tryz.underlying9
  a9 := Tryz.isAgg9
  z9 := Tryz.sizeOf9
  v9 := Tryz.zeroValue9
  t46 := Tryz.underlying265
  a46 := Tryz.isAgg265
  z46 := Tryz.sizeOf265
  v46 := Tryz.zeroValue265
  t51 := Tryz.underlying301
  a51 := Tryz.isAgg301
  z51 := Tryz.sizeOf301
  v51 := Tryz.zeroValue301
  t146 := Tryz.underlying334
  a146 := Tryz.isAgg334
  z146 := Tryz.sizeOf334
  v146 := Tryz.zeroValue334
  g1 := by kernel_rfl }
open Go.RowKit Go.Lib in
/-- strings.Count AT A substr OF ONE BYTE ('hp'): "Count counts the number of non-overlapping instances of substr in s.": IT RETURNS 'Lib.countByte s (that byte)'; the world is as it was. ✋ NO CONTRACT HERE YET at an empty substr (utf8.RuneCountInString) or at a longer one (a loop over strings.Index). (LAID: no walk: one application.) -/
theorem Tryz.strings_Count_one (s : ByteArray) (c : UInt8) (w : World) :
    Calls Tryz.prog 293 #[.string s, .string ⟨#[c]⟩] w fun e w' => e = .returned (.int .i64 (Lib.countByte s.data.toList c)) ∧ w' = w := Any.strings_Count_one Tryz.lays138 s c w
def Tryz.laysSlN43_f191_ren : Go.Shelf.Ren := ⟨fun | 43 => 191 | n => n, fun | 22 => 38 | 23 => 2 | 3 => 3 | 4 => 4 | 0 => 0 | n => n, fun | n => n⟩
theorem Tryz.laysSlN43_f191 : Go.Proofs.SlLaysN.n43 Tryz.prog Tryz.laysSlN43_f191_ren := {
  mixed := by kernel_rfl
  f43 := ⟨Tryz.f191.name, by decide, Tryz.func191.trans (congrArg some (by kernel_rfl))⟩
  t0 := Tryz.underlying0
  a0 := Tryz.isAgg0
  z0 := Tryz.sizeOf0
  v0 := Tryz.zeroValue0
  t3 := Tryz.underlying3
  a3 := Tryz.isAgg3
  z3 := Tryz.sizeOf3
  v3 := Tryz.zeroValue3
  t4 := Tryz.underlying4
  a4 := Tryz.isAgg4
  z4 := Tryz.sizeOf4
  v4 := Tryz.zeroValue4
  t22 := Tryz.underlying38
  a22 := Tryz.isAgg38
  z22 := Tryz.sizeOf38
  v22 := Tryz.zeroValue38
  t23 := Tryz.underlying2
  a23 := Tryz.isAgg2
  z23 := Tryz.sizeOf2
  v23 := Tryz.zeroValue2
  i23 := by kernel_rfl }
open Go.RowKit Go.Lib Go.Sort in
/-- slices.Compact at []int: "Compact replaces consecutive runs of equal elements with a single copy. This is like the uniq command found on Unix. Compact modifies the contents of the slice s and returns the modified slice, which may have a smaller length. Compact zeroes the elements between the new length and the original length. The result preserves the nilness of s.": IT RETURNS THE SLICE CUT TO 'Lib.compact zs'; ITS CELLS HOLD 'Lib.compact zs', THEN ZERO VALUES up to the old length; all else is as it was, but for the count of draws. IN THE WORDS OF slices.Sort's CONTRACT ('Holds', 'putRow'): so the everyday 'slices.Sort(xs); xs = slices.Compact(xs)' goes from the one contract to the other. It asks 'zs.length ≤ cap' (every slice's: the reslicing 's[:k]' looks at it). Length 0, nil: '.._empty'. (LAID AT THE INSTANCE 'slices.Compact[[]int64,int64]': no walk: one application.) -/
theorem Tryz.slices_Compact_int (blk off cap : Nat) (zs : List Int) (w : World) (hH : Holds (Value.int .i64) w blk off zs.toArray) (hsz : zs.length ≤ 9223372036854775807) (hcap : zs.length ≤ cap) :
    Calls Tryz.prog 191 #[.slice (some ⟨blk, off, none⟩) zs.length cap] w fun e w' => e = .returned (.slice (some ⟨blk, off, none⟩) (Lib.compact zs).length cap) ∧ ∃ q, w' = putRow (Value.int .i64) (Sort.ahead w q) blk off (Lib.compact zs ++ List.replicate (zs.length - (Lib.compact zs).length) 0).toArray := AnyG.slices_Compact_int Tryz.laysSlN43_f191 blk off cap zs w hH hsz hcap
open Go.RowKit Go.Lib Go.Sort in
/-- The same at a slice of length 0, a nil one too: it comes back as it is. (LAID AT THE INSTANCE 'slices.Compact[[]int64,int64]': no walk: one application.) -/
theorem Tryz.slices_Compact_int_empty (a : Option Addr) (cap : Nat) (w : World) :
    Calls Tryz.prog 191 #[.slice a 0 cap] w fun e w' => e = .returned (.slice a 0 cap) ∧ w' = w := AnyG.slices_Compact_int_empty Tryz.laysSlN43_f191 a cap w
def Tryz.laysSlM5_f190_ren : Go.Shelf.Ren := ⟨fun | 5 => 190 | 8 => 241 | 7 => 240 | 19 => 279 | 20 => 280 | 10 => 270 | 11 => 271 | 12 => 272 | 13 => 273 | 14 => 274 | 15 => 275 | 16 => 276 | 17 => 277 | 18 => 278 | 30 => 295 | 31 => 296 | 32 => 297 | 33 => 298 | 34 => 299 | 35 => 300 | 40 => 311 | n => n, fun | 23 => 38 | 25 => 2 | 3 => 3 | 32 => 265 | 22 => 38 | 0 => 0 | 44 => 301 | 46 => 274 | 4 => 4 | 36 => 293 | 35 => 292 | 41 => 298 | 5 => 5 | 9 => 9 | 53 => 312 | 57 => 316 | 63 => 324 | 64 => 325 | n => n, fun | n => n⟩
theorem Tryz.laysSlM5_f190 : Go.Proofs.SlLaysM.n5 Tryz.prog Tryz.laysSlM5_f190_ren := {
  mixed := by kernel_rfl
  f5 := ⟨Tryz.f190.name, by decide, Tryz.func190.trans (congrArg some (by kernel_rfl))⟩
  f7 := ⟨Tryz.f240.name, by decide, Tryz.func240.trans (congrArg some (by kernel_rfl))⟩
  f8 := Tryz.func241.trans (congrArg some (by kernel_rfl))
  f10 := ⟨Tryz.f270.name, by decide, Tryz.func270.trans (congrArg some (by kernel_rfl))⟩
  f11 := ⟨Tryz.f271.name, by decide, Tryz.func271.trans (congrArg some (by kernel_rfl))⟩
  f12 := ⟨Tryz.f272.name, by decide, Tryz.func272.trans (congrArg some (by kernel_rfl))⟩
  f13 := ⟨Tryz.f273.name, by decide, Tryz.func273.trans (congrArg some (by kernel_rfl))⟩
  f14 := ⟨Tryz.f274.name, by decide, Tryz.func274.trans (congrArg some (by kernel_rfl))⟩
  f15 := ⟨Tryz.f275.name, by decide, Tryz.func275.trans (congrArg some (by kernel_rfl))⟩
  f16 := ⟨Tryz.f276.name, by decide, Tryz.func276.trans (congrArg some (by kernel_rfl))⟩
  f17 := ⟨Tryz.f277.name, by decide, Tryz.func277.trans (congrArg some (by kernel_rfl))⟩
  f18 := ⟨Tryz.f278.name, by decide, Tryz.func278.trans (congrArg some (by kernel_rfl))⟩
  f19 := Tryz.func279.trans (congrArg some (by kernel_rfl))
  f20 := Tryz.func280.trans (congrArg some (by kernel_rfl))
  f30 := ⟨Tryz.f295.name, by decide, Tryz.func295.trans (congrArg some (by kernel_rfl))⟩
  f31 := Tryz.func296.trans (congrArg some (by kernel_rfl))
  f32 := Tryz.func297.trans (congrArg some (by kernel_rfl))
  f33 := ⟨Tryz.f298.name, by decide, Tryz.func298.trans (congrArg some (by kernel_rfl))⟩
  f34 := ⟨Tryz.f299.name, by decide, Tryz.func299.trans (congrArg some (by kernel_rfl))⟩
  f35 := ⟨Tryz.f300.name, by decide, Tryz.func300.trans (congrArg some (by kernel_rfl))⟩
  f40 := ⟨Tryz.f311.name, by decide, Tryz.func311.trans (congrArg some (by kernel_rfl))⟩
  t0 := Tryz.underlying0
  a0 := Tryz.isAgg0
  z0 := Tryz.sizeOf0
  v0 := Tryz.zeroValue0
  t3 := Tryz.underlying3
  a3 := Tryz.isAgg3
  z3 := Tryz.sizeOf3
  v3 := Tryz.zeroValue3
  t4 := Tryz.underlying4
  a4 := Tryz.isAgg4
  z4 := Tryz.sizeOf4
  v4 := Tryz.zeroValue4
  t5 := Tryz.underlying5
  a5 := Tryz.isAgg5
  z5 := Tryz.sizeOf5
  v5 := Tryz.zeroValue5
  t9 := Tryz.underlying9
  a9 := Tryz.isAgg9
  z9 := Tryz.sizeOf9
  v9 := Tryz.zeroValue9
  t22 := Tryz.underlying38
  a22 := Tryz.isAgg38
  z22 := Tryz.sizeOf38
  v22 := Tryz.zeroValue38
  t23 := Tryz.underlying38
  a23 := Tryz.isAgg38
  z23 := Tryz.sizeOf38
  v23 := Tryz.zeroValue38
  t25 := Tryz.underlying2
  a25 := Tryz.isAgg2
  z25 := Tryz.sizeOf2
  v25 := Tryz.zeroValue2
  t32 := Tryz.underlying265
  a32 := Tryz.isAgg265
  z32 := Tryz.sizeOf265
  v32 := Tryz.zeroValue265
  t35 := Tryz.underlying292
  a35 := Tryz.isAgg292
  z35 := Tryz.sizeOf292
  v35 := Tryz.zeroValue292
  t36 := Tryz.underlying293
  a36 := Tryz.isAgg293
  z36 := Tryz.sizeOf293
  v36 := Tryz.zeroValue293
  t41 := Tryz.underlying298
  a41 := Tryz.isAgg298
  z41 := Tryz.sizeOf298
  v41 := Tryz.zeroValue298
  t44 := Tryz.underlying301
  a44 := Tryz.isAgg301
  z44 := Tryz.sizeOf301
  v44 := Tryz.zeroValue301
  t46 := Tryz.underlying274
  a46 := Tryz.isAgg274
  z46 := Tryz.sizeOf274
  v46 := Tryz.zeroValue274
  t53 := Tryz.underlying312
  a53 := Tryz.isAgg312
  z53 := Tryz.sizeOf312
  v53 := Tryz.zeroValue312
  t57 := Tryz.underlying316
  a57 := Tryz.isAgg316
  z57 := Tryz.sizeOf316
  v57 := Tryz.zeroValue316
  t63 := Tryz.underlying324
  a63 := Tryz.isAgg324
  z63 := Tryz.sizeOf324
  v63 := Tryz.zeroValue324
  t64 := Tryz.underlying325
  a64 := Tryz.isAgg325
  z64 := Tryz.sizeOf325
  v64 := Tryz.zeroValue325 }
open Go.Sort Go.RowKit in
theorem Tryz.slices_Sort_int (blk off cap : Nat) (zs : List Int) (w : World) (hH : Holds (Value.int .i64) w blk off zs.toArray) (hblk : blk < w.heap.size) (hsz : zs.length < 4611686018427387904) :
    Calls Tryz.prog 190 #[.slice (some ⟨blk, off, none⟩) zs.length cap] w fun e w' =>
      e = .returned (.tuple #[]) ∧ ∃ n os, w' = grow (putRow (Value.int .i64) (Sort.ahead w n) blk off (zs.mergeSort fun x y => decide (x ≤ y)).toArray) os := AnyM.slices_Sort_int Tryz.laysSlM5_f190 blk off cap zs w hH hblk hsz
open Go.RowKit Go.Sort in
/-- .. and plain. (LAID AT THE INSTANCE 'slices.Sort[[]int64,int64]': no walk: one application.) -/
theorem Tryz.slices_Sort_int_none (p : Option Addr) (cap : Nat) (w : World) :
    Calls Tryz.prog 190 #[.slice p 0 cap] w fun e w' => e = .returned (.tuple #[]) ∧ w' = w := AnyM.slices_Sort_int_none Tryz.laysSlM5_f190 p cap w
end Go.Proofs
namespace Go.Proofs.YtafhjhdohclchaaGreatDoor.G
open Go.RowKit Go.Proofs.YtafhjhdohclchaaGreatDoorW.PrintWords Go.Proofs.YtafhjhdohclchaaGreatDoorW.PrintLast Go.Proofs.YtafhjhdohclchaaGreatDoorW.PrintMore
attribute [local go_sem] min2_int min_two
attribute [local go_sem high] str_leq
attribute [local go_sem] binOp_string_geq
theorem one_byte (s : ByteArray) (h : s.size = 1) : s = ⟨#[s.data.getD 0 0]⟩ := by
  obtain ⟨d⟩ := s
  have hd : d.size = 1 := h
  congr 1
  apply Array.ext
  · simpa using hd
  · intro i h1 h2
    have : i = 0 := by omega
    subst this
    simp [Array.getD, hd]
def strings_Index.f (a0 a1 : ByteArray) : Option Int := if a1.size = 1 then some (Lib.indexByte a0.data.toList (a1.data.getD 0 0)) else none
theorem strings_Index.calls (a0 a1 : ByteArray) (r : Int) (w : World) (h : strings_Index.f a0 a1 = some r) :
    Calls Tryz.prog 294 #[.string a0, .string a1] w fun e w' => e = .returned (.int .i64 r) ∧ Drawn0 w w' := by
  unfold strings_Index.f at h
  split at h
  · rename_i h1
    injection h with h
    have hc := Go.Proofs.Tryz.strings_Index_one a0 (a1.data.getD 0 0) w
    rw [← one_byte a1 h1] at hc
    exact hc.mono fun e w' hh => ⟨by rw [hh.1, h], by rw [hh.2]; exact Drawn0.refl w⟩
  · cases h
def strings_Count.f (a0 a1 : ByteArray) : Option Int := if a1.size = 1 then some (Lib.countByte a0.data.toList (a1.data.getD 0 0)) else none
theorem strings_Count.calls (a0 a1 : ByteArray) (r : Int) (w : World) (h : strings_Count.f a0 a1 = some r) :
    Calls Tryz.prog 293 #[.string a0, .string a1] w fun e w' => e = .returned (.int .i64 r) ∧ Drawn0 w w' := by
  unfold strings_Count.f at h
  split at h
  · rename_i h1
    injection h with h
    have hc := Go.Proofs.Tryz.strings_Count_one a0 (a1.data.getD 0 0) w
    rw [← one_byte a1 h1] at hc
    exact hc.mono fun e w' hh => ⟨by rw [hh.1, h], by rw [hh.2]; exact Drawn0.refl w⟩
  · cases h
def strings_explode.f (a0 : ByteArray) (a1 : Int) : Option (List ByteArray) := none
theorem strings_explode.calls (a0 : ByteArray) (a1 : Int) (r : List ByteArray) (w : World) (h : strings_explode.f a0 a1 = some r) :
    Calls Tryz.prog 292 #[.string a0, .int .i64 a1] w fun e w' => ∃ v0_ : Value, e = .returned (v0_) ∧ Kd.R Kd.string 9 w' w.heap.size (fun _ => True) v0_ r ∧ Below w.heap.size w w' := by cases h
end Go.Proofs.YtafhjhdohclchaaGreatDoor.G
namespace Go.Proofs.YtafhjhdohclchaaGreatDoor.G
open Go.RowKit Go.Proofs.YtafhjhdohclchaaGreatDoorW.PrintWords Go.Proofs.YtafhjhdohclchaaGreatDoorW.PrintLast Go.Proofs.YtafhjhdohclchaaGreatDoorW.PrintMore
attribute [local go_sem] min2_int min_two
theorem Ev.ip {α : Type} {c : Prop} [Decidable c] {f g : Nat → Option α} {r : α} (h : c) (k : Ev f r) : Ev (fun n => if c then f n else g n) r := by
  simp only [if_pos h]; exact k
theorem Ev.im {α : Type} {c : Prop} [Decidable c] {f g : Nat → Option α} {r : α} (h : ¬ c) (k : Ev g r) : Ev (fun n => if c then f n else g n) r := by
  simp only [if_neg h]; exact k
theorem w64_id (x : Int) (h0 : -9223372036854775808 ≤ x) (h1 : x ≤ 9223372036854775807) : wrap64 x = x := IntWalk.wrap64_in x ⟨h0, h1⟩
def bs (l : List UInt8) : ByteArray := ⟨l.toArray⟩
theorem bs_toList (s : ByteArray) : bs s.data.toList = s := by cases s; rfl
theorem bs_data (l : List UInt8) : (bs l).data.toList = l := by simp [bs]
theorem bs_size (l : List UInt8) : (bs l).size = l.length := by show l.toArray.size = _; simp
theorem size_len (s : ByteArray) : s.size = s.data.toList.length := by show s.data.size = _; simp
theorem toList_data (s : ByteArray) : s.toList = s.data.toList := Lib.toList_data s
theorem extract_bs (s : ByteArray) (a b : Nat) : s.extract a b = bs ((s.data.toList.drop a).take (b - a)) := by
  have h := Lib.extract_data s a b
  exact (bs_toList _).symm.trans (by rw [h])
/-- A text cut at a byte: as many pieces as it has of these, and one. -/
def cutL (c : UInt8) : List UInt8 → List (List UInt8)
  | [] => [[]]
  | b :: r => if b = c then [] :: cutL c r else match cutL c r with
    | [] => [[b]]
    | p :: ps => (b :: p) :: ps
theorem cutL_ne (c : UInt8) (l : List UInt8) : cutL c l ≠ [] := by
  cases l with
  | nil => simp [cutL]
  | cons b r =>
    simp only [cutL]
    split
    · simp
    · split <;> simp
/-- No such byte ahead: the first piece takes them all in. -/
theorem cutL_pre (c : UInt8) (p : List UInt8) (hp : ∀ b ∈ p, b ≠ c) (l : List UInt8) : cutL c (p ++ l) = match cutL c l with | [] => [p] | q :: qs => (p ++ q) :: qs := by
  induction p with
  | nil => have := cutL_ne c l; revert this; cases h : cutL c l <;> simp [h]
  | cons b r ih =>
    rw [List.cons_append, cutL, if_neg (hp b (by simp)), ih (fun x hx => hp x (by simp [hx]))]
    cases cutL c l <;> simp
theorem cutL_none (c : UInt8) (p : List UInt8) (hp : ∀ b ∈ p, b ≠ c) : cutL c p = [p] := by
  have := cutL_pre c p hp []
  simpa [cutL] using this
theorem cutL_at (c : UInt8) (p l : List UInt8) (hp : ∀ b ∈ p, b ≠ c) : cutL c (p ++ c :: l) = p :: cutL c l := by
  rw [cutL_pre c p hp]
  simp [cutL]
theorem indexByte_spec (l : List UInt8) (c : UInt8) : (Lib.indexByte l c = -1 ∧ l.count c = 0 ∧ ∀ b ∈ l, b ≠ c) ∨ ∃ p q, l = p ++ c :: q ∧ Lib.indexByte l c = p.length ∧ ∀ b ∈ p, b ≠ c := by
  induction l with
  | nil => exact .inl ⟨rfl, rfl, by simp⟩
  | cons b r ih =>
    by_cases h : b = c
    · subst h
      exact .inr ⟨[], r, rfl, by simp [Lib.indexByte], by simp⟩
    · have hb : (b == c) = false := by simpa using h
      rcases ih with ⟨h1, h2, h3⟩ | ⟨p, q, h1, h2, h3⟩
      · exact .inl ⟨by simp [Lib.indexByte, hb, h1], by rw [List.count_cons, h2]; simp [hb], by simpa using ⟨h, h3⟩⟩
      · refine .inr ⟨b :: p, q, by rw [h1]; rfl, ?_, by simpa using ⟨h, h3⟩⟩
        have h4 : (Lib.indexByte r c == -1) = false := by rw [h2]; simp
        simp only [Lib.indexByte, hb, h4]
        simp [h2]
end Go.Proofs.YtafhjhdohclchaaGreatDoor.G
namespace Go.Proofs.YtafhjhdohclchaaGreatDoor.G
open Go.RowKit Go.Proofs.YtafhjhdohclchaaGreatDoorW.PrintWords Go.Proofs.YtafhjhdohclchaaGreatDoorW.PrintLast Go.Proofs.YtafhjhdohclchaaGreatDoorW.PrintMore
theorem Am {p : Prop} (h : p) : Aside0 p := ⟨h⟩
theorem nge {w W : World} {gb : Nat} (hg : gb = W.heap.size) (h : Below w.heap.size w W) : w.heap.size ≤ gb := by rw [hg]; exact h.size
theorem nlt {W : World} {g gb : Nat} {o : Obj} (hg : gb = W.heap.size) (h : W.heap[g]? = some o) : g ≠ gb := by rw [hg]; exact Nat.ne_of_lt (blk_lt h)
theorem ngt {W : World} {g gb : Nat} {o : Obj} (hg : gb = W.heap.size) (h : W.heap[g]? = some o) : gb ≠ g := by rw [hg]; exact Nat.ne_of_gt (blk_lt h)
theorem pcb {w w1 : World} (h : Below w.heap.size w w1) {a : Addr} {v : Value} (hc : w.cell? a = some v) : w1.cell? a = some v := pw_cell_below h hc
theorem od {p : Prop} {i : Decidable p} (h : decide p = true) : p := of_decide_eq_true h
theorem zbs {A B : Type} {o : Option A} {f : A → Option B} {b : B} (h : (o.bind f) = some b) : ∃ a, Aside0 (o = some a) ∧ f a = some b := by
  obtain ⟨a, k, l⟩ := Option.bind_eq_some_iff.mp h
  exact ⟨a, ⟨k⟩, l⟩
theorem it {A : Type} {c : Prop} {i : Decidable c} {a b r : A} (h : (if c then a else b) = r) (k : c) : a = r := by rw [if_pos k] at h; exact h
theorem ie {A : Type} {c : Prop} {i : Decidable c} {a b r : A} (h : (if c then a else b) = r) (k : ¬ c) : b = r := by rw [if_neg k] at h; exact h
theorem ino {A : Type} {c : Prop} {i : Decidable c} {a : Option A} {r : A} (h : (if c then a else none) = some r) : c ∧ a = some r := by
  by_cases k : c
  · exact ⟨k, it h k⟩
  · exact absurd (ie h k) (by simp)
theorem cb2 {w : World} {g : Nat} {t : TypeId} {v0 v1 : Value} (h : w.heap[g]? = some (.cells #[v0, v1] t (0, 0))) : w.cell? ⟨g, 0, none⟩ = some v0 ∧ w.cell? ⟨g, 1, none⟩ = some v1 ∧ w.frozen? ⟨g, 0, none⟩ = false ∧ w.frozen? ⟨g, 1, none⟩ = false := ⟨(blk_cell h 0).trans rfl, (blk_cell h 1).trans rfl, blk_frozen h 0, blk_frozen h 1⟩
theorem cb5 {w : World} {g : Nat} {t : TypeId} {v0 v1 v2 v3 v4 : Value} (h : w.heap[g]? = some (.cells #[v0, v1, v2, v3, v4] t (0, 0))) : w.cell? ⟨g, 0, none⟩ = some v0 ∧ w.cell? ⟨g, 1, none⟩ = some v1 ∧ w.cell? ⟨g, 2, none⟩ = some v2 ∧ w.cell? ⟨g, 3, none⟩ = some v3 ∧ w.cell? ⟨g, 4, none⟩ = some v4 ∧ w.frozen? ⟨g, 0, none⟩ = false ∧ w.frozen? ⟨g, 1, none⟩ = false ∧ w.frozen? ⟨g, 2, none⟩ = false ∧ w.frozen? ⟨g, 3, none⟩ = false ∧ w.frozen? ⟨g, 4, none⟩ = false := ⟨(blk_cell h 0).trans rfl, (blk_cell h 1).trans rfl, (blk_cell h 2).trans rfl, (blk_cell h 3).trans rfl, (blk_cell h 4).trans rfl, blk_frozen h 0, blk_frozen h 1, blk_frozen h 2, blk_frozen h 3, blk_frozen h 4⟩
end Go.Proofs.YtafhjhdohclchaaGreatDoor.G
namespace Go.Proofs.YtafhjhdohclchaaGreatDoor.G
open Go.RowKit Go.Proofs.YtafhjhdohclchaaGreatDoorW.PrintWords Go.Proofs.YtafhjhdohclchaaGreatDoorW.PrintLast Go.Proofs.YtafhjhdohclchaaGreatDoorW.PrintMore
attribute [local go_sem] min2_int min_two
attribute [local go_sem high] str_leq
attribute [local go_sem] binOp_string_geq
def q1t.l0 : Nat → ByteArray → Int → List ByteArray → Int → Int → Option (List ByteArray)
 | 0, _, _, _, _, _ => none
 | k + 1, x0, x1, x5, x6, x7 => if x7 ≤ (x0.size : Int) then (if x7 = (x0.size : Int) then (if 0 ≤ x6 then (if x6 ≤ x7 then (if x5.length < 8796093022208 then (q1t.l0 k x0 x1 (x5 ++ [x0.extract (x6 : Int).toNat (x7 : Int).toNat]) (wrap64 (x7 + 1)) (wrap64 (x7 + 1))) else (none)) else (none)) else (none)) else (if 0 ≤ x7 then (if x7 < (x0.size : Int) then (if (bt x0 x7) = x1 then (if 0 ≤ x6 then (if x6 ≤ x7 then (if x5.length < 8796093022208 then (q1t.l0 k x0 x1 (x5 ++ [x0.extract (x6 : Int).toNat (x7 : Int).toNat]) (wrap64 (x7 + 1)) (wrap64 (x7 + 1))) else (none)) else (none)) else (none)) else (q1t.l0 k x0 x1 x5 x6 (wrap64 (x7 + 1)))) else (none)) else (none))) else (some x5)
def q1t.f (k : Nat) (a0 : ByteArray) (a1 : Int) : Option (List ByteArray) := q1t.l0 k a0 a1 (([] : List ByteArray)) 0 0
theorem q1t.mono_l : ∀ k, (∀ y0 y1 y2 y3 y4, LeO (q1t.l0 k y0 y1 y2 y3 y4) (q1t.l0 (k + 1) y0 y1 y2 y3 y4))
 | 0 => fun _ _ _ _ _ r h => by simp [q1t.l0] at h
 | k + 1 => by
  have ih0 := q1t.mono_l k
  ·intro y0 y1 y2 y3 y4
   unfold q1t.l0
   repeat' first | (with_reducible exact ih0 _ _ _ _ _) | (with_reducible exact LeO.refl _) | (with_reducible refine LeO.ite ?_ ?_)
theorem q1t.mono : ∀ a0 a1 k, LeO (q1t.f k a0 a1) (q1t.f (k + 1) a0 a1) := by
 intro a0 a1 k
 have ih0 := q1t.mono_l k
 unfold q1t.f
 repeat' (with_reducible exact ih0 _ _ _ _ _)
set_option maxHeartbeats 8000000 in
set_option maxRecDepth 100000 in
theorem q1t.calls (k : Nat) (a0 : ByteArray) (a1 : Int) (r : List ByteArray) (w : World) (h : q1t.f k a0 a1 = some r) :
  Calls Tryz.prog 61 #[.string a0, .int .u8 a1] w fun e w' => ∃ v0_ : Value, e = .returned (v0_) ∧ Kd.R Kd.string 9 w' w.heap.size (fun _ => True) v0_ r ∧ Below w.heap.size w w' := by
 have HB := Am (Below.refl w.heap.size w)
 have H : (q1t.l0 k a0 a1 (([] : List ByteArray)) 0 0) = some r := h
 clear h
 obtain ⟨y736, hy736⟩ : ∃ y_ : List ByteArray, y_ = (([] : List ByteArray)) := ⟨_, rfl⟩
 replace H : (q1t.l0 k a0 a1 y736 0 0) = some r := by (rw [hy736]; with_reducible exact H)
 have Ny736 := Am hy736
 clear hy736
 have H' := Am H
 clear H
 go_enter Tryz.func61, Tryz.ntmps61
 go_wp2_with (((with_reducible refine gate_dst (N := 8) rfl ?_); refine Kd.R_lit Kd.string _ 9 ?hg (N := 8) ?hd (xs := ([] : List ByteArray)) (inner := []) (ok := fun _ => True) (okp := fun _ => True) ?hr ?hp (fun _ hk => hk) trivial (Below.refl _ _) (Nat.le_refl _) (by simp) ?_; (case hd => rfl); (case hg => rfl); (case hr => (go_simp; done)); (case hp => exact (Reps.none _ _)); intro v737 w3 ho4 hb hg_ hnew_; clear hg_ hnew_; (rw [← Ny736.out] at ho4); have HO738 := Am (Kd.R_lower ho4 (below_size HB.out)); replace HB := Am (below_step HB.out hb); clear hb ho4))
 go_loopg [5, 6, 7] k (fun kq v5 v6 v7 w' => ∃ (x5_1 : List ByteArray) (x6_1 : Int) (x7_1 : Int), v6 = .int .i64 x6_1 ∧ v7 = .int .i64 x7_1 ∧ Aside0 (q1t.l0 kq a0 a1 x5_1 x6_1 x7_1 = some r) ∧ Aside0 (kq ≤ k) ∧ Aside0 (Kd.R Kd.string 9 w' w.heap.size (fun _ => True) v5 x5_1) ∧ Aside0 (Below w.heap.size w w'))
 case atStart => exact ⟨(y736), (0), (0), (by rfl), (by rfl), H', ⟨Nat.le_refl _⟩, ⟨by exact HO738.out⟩, ⟨HB.out⟩⟩
 case round =>
  clear H'
  obtain ⟨x5_1, x6_1, x7_1, rfl, rfl, HA, HK1, HO_5, HB⟩ := hrel
  cases gk with
  | zero => exact absurd HA.out (by simp [q1t.l0])
  | succ k1 =>
   have H := HA.out
   clear HA
   simp only [q1t.l0] at H
   by_cases c5 : x7_1 ≤ (a0.size : Int)
   ·rw [if_pos c5] at H
    have c5b0 : decide (x7_1 ≤ (a0.size : Int)) = true := decide_eq_true c5
    clear c5
    by_cases c6 : x7_1 = (a0.size : Int)
    ·rw [if_pos c6] at H
     have c6b0 : (x7_1 == (a0.size : Int)) = true := beq_iff_eq.mpr c6
     have c6b1 : (x7_1 != (a0.size : Int)) = false := bne_eq_false_iff_eq.mpr c6
     clear c6
     replace H := ino H
     obtain ⟨c7, H⟩ := H
     have c7b0 := eq_true c7
     have c7b1 : decide (0 ≤ x6_1) = true := decide_eq_true c7
     clear c7
     replace H := ino H
     obtain ⟨c8, H⟩ := H
     have c8b0 := eq_true c8
     have c8b1 : decide (x6_1 ≤ x7_1) = true := decide_eq_true c8
     clear c8
     have c9b0 := eq_true (od (by assumption) : x7_1 ≤ (a0.size : Int))
     replace H := ino H
     obtain ⟨c10, H⟩ := H
     have LMc10 := Am c10
     clear c10
     obtain ⟨y739, hy739⟩ : ∃ y_ : List ByteArray, y_ = (x5_1 ++ [a0.extract (x6_1 : Int).toNat (x7_1 : Int).toNat]) := ⟨_, rfl⟩
     replace H : (q1t.l0 k1 a0 a1 y739 (wrap64 (x7_1 + 1)) (wrap64 (x7_1 + 1))) = some r := by (rw [hy739]; with_reducible exact H)
     have Ny739 := Am hy739
     clear hy739
     have H' := Am H
     clear H
     go_wp2_with (((with_reducible refine gate_builtin (b := .append) (xs := #[.tmp 26, .tmp 31]) rfl ?_); at_builtin; refine Kd.R_append Kd.string (w0 := w) w.heap.size rfl (.tmp 26) (.tmp 31) 24 9 (.string ⟨#[]⟩) 16 rfl Tryz.underlying24 info9 rfl (by decide) (by omega) u5 x5_1 (a0.extract (x6_1 : Int).toNat (x7_1 : Int).toNat) [.string (a0.extract (x6_1 : Int).toNat (x7_1 : Int).toNat)] (fun _ => True) (fun _ => False) rfl rfl ?aP (fun _ hk => hk.elim) ?aF ?aO ?aB ?aS ?aL ?_; (case aP => exact rfl); (case aB => exact HB.out); (case aF => exact (fun _ _ => trivial)); (case aO => exact HO_5.out); (case aS => exact (below_size HB.out)); (case aL => have := LMc10.out; omega); intro v740 w11 ho hb hg hat; rw [← Ny739.out] at ho; replace HB := Am hb; have HO741 := Am ho; clear HO_5; clear ho hb hg hat))
     go_roundg k1
     case measure => have := HK1.out; omega
     case rel => exact ⟨(y739), (wrap64 (x7_1 + 1)), (wrap64 (x7_1 + 1)), (by rfl), (by rfl), H', ⟨by have := HK1.out; omega⟩, ⟨by exact HO741.out⟩, ⟨HB.out⟩⟩
    ·rw [if_neg c6] at H
     have c6b0 : (x7_1 == (a0.size : Int)) = false := beq_eq_false_iff_ne.mpr c6
     have c6b1 : (x7_1 != (a0.size : Int)) = true := bne_iff_ne.mpr c6
     replace H := ino H
     obtain ⟨c12, H⟩ := H
     have c12b0 : decide (0 ≤ x7_1) = true := decide_eq_true c12
     clear c12
     replace H := ino H
     obtain ⟨c13, H⟩ := H
     have c13b0 : decide (x7_1 < (a0.size : Int)) = true := decide_eq_true c13
     clear c13
     by_cases c15 : (bt a0 x7_1) = a1
     ·rw [if_pos c15] at H
      have c15b0 : ((bt a0 x7_1) == a1) = true := beq_iff_eq.mpr c15
      have c15b1 : ((bt a0 x7_1) != a1) = false := bne_eq_false_iff_eq.mpr c15
      clear c15
      replace H := ino H
      obtain ⟨c16, H⟩ := H
      have c16b0 := eq_true c16
      have c16b1 : decide (0 ≤ x6_1) = true := decide_eq_true c16
      clear c16
      replace H := ino H
      obtain ⟨c17, H⟩ := H
      have c17b0 := eq_true c17
      have c17b1 : decide (x6_1 ≤ x7_1) = true := decide_eq_true c17
      clear c17
      have c18b0 := eq_true (od (by assumption) : x7_1 ≤ (a0.size : Int))
      replace H := ino H
      obtain ⟨c19, H⟩ := H
      have LMc19 := Am c19
      clear c19
      obtain ⟨y742, hy742⟩ : ∃ y_ : List ByteArray, y_ = (x5_1 ++ [a0.extract (x6_1 : Int).toNat (x7_1 : Int).toNat]) := ⟨_, rfl⟩
      replace H : (q1t.l0 k1 a0 a1 y742 (wrap64 (x7_1 + 1)) (wrap64 (x7_1 + 1))) = some r := by (rw [hy742]; with_reducible exact H)
      have Ny742 := Am hy742
      clear hy742
      have H' := Am H
      clear H
      have p14 : 0 ≤ (x7_1 : Int) := od (by assumption)
      have q14 : x7_1 < (a0.size : Int) := od (by assumption)
      have hx14 := bt_at a0 x7_1
      replace p14 := eq_true p14
      replace q14 := eq_true q14
      go_wp2_with (((with_reducible refine gate_builtin (b := .append) (xs := #[.tmp 26, .tmp 31]) rfl ?_); at_builtin; refine Kd.R_append Kd.string (w0 := w) w.heap.size rfl (.tmp 26) (.tmp 31) 24 9 (.string ⟨#[]⟩) 16 rfl Tryz.underlying24 info9 rfl (by decide) (by omega) u5 x5_1 (a0.extract (x6_1 : Int).toNat (x7_1 : Int).toNat) [.string (a0.extract (x6_1 : Int).toNat (x7_1 : Int).toNat)] (fun _ => True) (fun _ => False) rfl rfl ?aP (fun _ hk => hk.elim) ?aF ?aO ?aB ?aS ?aL ?_; (case aP => exact rfl); (case aB => exact HB.out); (case aF => exact (fun _ _ => trivial)); (case aO => exact HO_5.out); (case aS => exact (below_size HB.out)); (case aL => have := LMc19.out; omega); intro v743 w20 ho hb hg hat; rw [← Ny742.out] at ho; replace HB := Am hb; have HO744 := Am ho; clear HO_5; clear ho hb hg hat))
      go_roundg k1
      case measure => have := HK1.out; omega
      case rel => exact ⟨(y742), (wrap64 (x7_1 + 1)), (wrap64 (x7_1 + 1)), (by rfl), (by rfl), H', ⟨by have := HK1.out; omega⟩, ⟨by exact HO744.out⟩, ⟨HB.out⟩⟩
     ·rw [if_neg c15] at H
      have c15b0 : ((bt a0 x7_1) == a1) = false := beq_eq_false_iff_ne.mpr c15
      have c15b1 : ((bt a0 x7_1) != a1) = true := bne_iff_ne.mpr c15
      have H' := Am H
      clear H
      have p14 : 0 ≤ (x7_1 : Int) := od (by assumption)
      have q14 : x7_1 < (a0.size : Int) := od (by assumption)
      have hx14 := bt_at a0 x7_1
      replace p14 := eq_true p14
      replace q14 := eq_true q14
      go_wp2
      go_roundg k1
      case measure => have := HK1.out; omega
      case rel => exact ⟨(x5_1), (x6_1), (wrap64 (x7_1 + 1)), (by rfl), (by rfl), H', ⟨by have := HK1.out; omega⟩, ⟨by exact HO_5.out⟩, ⟨HB.out⟩⟩
   ·rw [if_neg c5] at H
    have c5b0 : decide (x7_1 ≤ (a0.size : Int)) = false := decide_eq_false c5
    clear c5
    obtain rfl := Option.some.inj H
    go_wp2
    go_ret
    exact ⟨_, by rfl, by exact HO_5.out, HB.out⟩
end Go.Proofs.YtafhjhdohclchaaGreatDoor.G
namespace Go.Proofs.YtafhjhdohclchaaGreatDoor.G
open Go.RowKit Go.Proofs.YtafhjhdohclchaaGreatDoorW.PrintWords Go.Proofs.YtafhjhdohclchaaGreatDoorW.PrintLast Go.Proofs.YtafhjhdohclchaaGreatDoorW.PrintMore
attribute [local go_sem] min2_int min_two
attribute [local go_sem high] str_leq
attribute [local go_sem] binOp_string_geq
mutual
def q2i.j0 : Nat → ByteArray → ByteArray → Int → Int → Option (List ByteArray)
 | 0, _, _, _, _ => none
 | k + 1, x0, x1, x2, x3 => if 0 ≤ (mn x3 (wrap64 ((x0.size : Int) + 1))) then (if (mn x3 (wrap64 ((x0.size : Int) + 1)) : Int).toNat ≤ 17592186044416 then (q2i.l0 k x0 x1 x2 (wrap64 ((mn x3 (wrap64 ((x0.size : Int) + 1))) - 1)) (List.replicate (mn x3 (wrap64 ((x0.size : Int) + 1)) : Int).toNat (⟨#[]⟩ : ByteArray)) 0) else (none)) else (none)
def q2i.l0 : Nat → ByteArray → ByteArray → Int → Int → List ByteArray → Int → Option (List ByteArray)
 | 0, _, _, _, _, _, _ => none
 | k + 1, x0, x1, x2, x3, x9, x10 => if x10 < x3 then ((strings_Index.f x0 x1).bind fun t376 => (if t376 < 0 then (if 0 ≤ x10 then (if x10 < (x9.length : Int) then (if 0 ≤ (wrap64 (x10 + 1)) then (if (wrap64 (x10 + 1)) ≤ (x9.length : Int) then (some ((x9.set (x10 : Int).toNat x0).take ((wrap64 (x10 + 1)) : Int).toNat)) else (none)) else (none)) else (none)) else (none)) else (if 0 ≤ (wrap64 (t376 + x2)) then (if (wrap64 (t376 + x2)) ≤ (x0.size : Int) then (if 0 ≤ x10 then (if x10 < (x9.length : Int) then (if 0 ≤ (wrap64 (t376 + (x1.size : Int))) then (if (wrap64 (t376 + (x1.size : Int))) ≤ (x0.size : Int) then (q2i.l0 k (x0.extract ((wrap64 (t376 + (x1.size : Int))) : Int).toNat x0.size) x1 x2 x3 (x9.set (x10 : Int).toNat (x0.extract 0 ((wrap64 (t376 + x2)) : Int).toNat)) (wrap64 (x10 + 1))) else (none)) else (none)) else (none)) else (none)) else (none)) else (none)))) else (if 0 ≤ x10 then (if x10 < (x9.length : Int) then (if 0 ≤ (wrap64 (x10 + 1)) then (if (wrap64 (x10 + 1)) ≤ (x9.length : Int) then (some ((x9.set (x10 : Int).toNat x0).take ((wrap64 (x10 + 1)) : Int).toNat)) else (none)) else (none)) else (none)) else (none))
end
def q2i.f (k : Nat) (a0 : ByteArray) (a1 : ByteArray) (a2 : Int) (a3 : Int) : Option (List ByteArray) := if a3 = 0 then (some ([] : List ByteArray)) else (if a1.toList = ([] : List UInt8) then ((strings_explode.f a0 a3).bind fun t369 => (some t369)) else (if a3 < 0 then ((strings_Count.f a0 a1).bind fun t372 => (q2i.j0 k a0 a1 a2 (wrap64 (t372 + 1)))) else (q2i.j0 k a0 a1 a2 a3)))
theorem q2i.mono_l : ∀ k, (∀ y0 y1 y2 y3, LeO (q2i.j0 k y0 y1 y2 y3) (q2i.j0 (k + 1) y0 y1 y2 y3)) ∧ (∀ y0 y1 y2 y3 y4 y5, LeO (q2i.l0 k y0 y1 y2 y3 y4 y5) (q2i.l0 (k + 1) y0 y1 y2 y3 y4 y5))
 | 0 => ⟨fun _ _ _ _ r h => by simp [q2i.j0] at h, fun _ _ _ _ _ _ r h => by simp [q2i.l0] at h⟩
 | k + 1 => by
  obtain ⟨ih0, ih1⟩ := q2i.mono_l k
  refine ⟨?_, ?_⟩
  ·intro y0 y1 y2 y3
   unfold q2i.j0
   repeat' first | (with_reducible exact ih1 _ _ _ _ _ _) | (with_reducible exact LeO.refl _) | (with_reducible refine LeO.ite ?_ ?_)
  ·intro y0 y1 y2 y3 y4 y5
   unfold q2i.l0
   repeat' first | (with_reducible exact ih1 _ _ _ _ _ _) | (with_reducible exact LeO.refl _) | (with_reducible refine LeO.ite ?_ ?_) | (with_reducible refine LeO.bind ?_ (fun _ => ?_))
theorem q2i.mono : ∀ a0 a1 a2 a3 k, LeO (q2i.f k a0 a1 a2 a3) (q2i.f (k + 1) a0 a1 a2 a3) := by
 intro a0 a1 a2 a3 k
 obtain ⟨ih0, ih1⟩ := q2i.mono_l k
 unfold q2i.f
 repeat' first | (with_reducible exact ih0 _ _ _ _) | (with_reducible exact LeO.refl _) | (with_reducible refine LeO.ite ?_ ?_) | (with_reducible refine LeO.bind ?_ (fun _ => ?_))
set_option maxHeartbeats 8000000 in
set_option maxRecDepth 100000 in
theorem q2i.calls (k : Nat) (a0 : ByteArray) (a1 : ByteArray) (a2 : Int) (a3 : Int) (r : List ByteArray) (w : World) (h : q2i.f k a0 a1 a2 a3 = some r) :
  Calls Tryz.prog 269 #[.string a0, .string a1, .int .i64 a2, .int .i64 a3] w fun e w' => ∃ v0_ : Value, e = .returned (v0_) ∧ Kd.R Kd.string 9 w' w.heap.size (fun _ => True) v0_ r ∧ Below w.heap.size w w' := by
 have HB := Am (Below.refl w.heap.size w)
 have H : (if a3 = 0 then (some ([] : List ByteArray)) else (if a1.toList = ([] : List UInt8) then ((strings_explode.f a0 a3).bind fun t369 => (some t369)) else (if a3 < 0 then ((strings_Count.f a0 a1).bind fun t372 => (q2i.j0 k a0 a1 a2 (wrap64 (t372 + 1)))) else (q2i.j0 k a0 a1 a2 a3)))) = some r := h
 clear h
 by_cases c5 : a3 = 0
 ·rw [if_pos c5] at H
  have c5b0 : (a3 == 0) = true := beq_iff_eq.mpr c5
  have c5b1 : (a3 != 0) = false := bne_eq_false_iff_eq.mpr c5
  clear c5
  obtain rfl := Option.some.inj H
  go_enter Tryz.func269, Tryz.ntmps269
  go_wp2
  go_ret
  exact ⟨_, by rfl, by exact Kd.R_nil _ _ _ _ _, HB.out⟩
 ·rw [if_neg c5] at H
  have c5b0 : (a3 == 0) = false := beq_eq_false_iff_ne.mpr c5
  have c5b1 : (a3 != 0) = true := bne_iff_ne.mpr c5
  by_cases c6 : a1.toList = ([] : List UInt8)
  ·rw [if_pos c6] at H
   have c6b0 : (a1.toList == ([] : List UInt8)) = true := beq_iff_eq.mpr c6
   have c6b1 : (a1.toList != ([] : List UInt8)) = false := bne_eq_false_iff_eq.mpr c6
   clear c6
   replace H := zbs H
   obtain ⟨t369, A7, H⟩ := H
   obtain rfl := Option.some.inj H
   go_enter Tryz.func269, Tryz.ntmps269
   go_wp2_with (((with_reducible refine gate_callee (f := 292) rfl ?_); refine goesL_ (some 18) rfl rfl Tryz.func292 (by kernel_rfl) rfl #[.string a0, .int .i64 a3] rfl (by (try simp only [List.map_toArray, List.map_cons, List.map_nil]); rfl) ?_; (with_reducible refine (strings_explode.calls a0 a3 t369 _ A7.out).mono ?_); rintro e w8 ⟨v370, rfl, ho0, hb⟩; refine ⟨_, rfl, ?_⟩; have HO371 := Am (Kd.R_lower ho0 (below_size HB.out)); replace HB := Am (below_step HB.out hb); (try clear hb); (try clear ho0)))
   go_ret
   exact ⟨_, by rfl, by exact HO371.out, HB.out⟩
  ·rw [if_neg c6] at H
   have c6b0 : (a1.toList == ([] : List UInt8)) = false := beq_eq_false_iff_ne.mpr c6
   have c6b1 : (a1.toList != ([] : List UInt8)) = true := bne_iff_ne.mpr c6
   have HC9 := Am H
   clear H
   go_enter Tryz.func269, Tryz.ntmps269
   go_upto_if 20 with (fail)
   go_cut [3] (fun v3 wc => ∃ (kq : Nat) (x3_8 : Int), v3 = .int .i64 x3_8 ∧ Aside0 (q2i.j0 kq a0 a1 a2 x3_8 = some r) ∧ Aside0 (kq ≤ k) ∧ Aside0 (Below w.heap.size w wc))
   case first =>
    have H := HC9.out
    clear HC9
    by_cases c10 : a3 < 0
    ·rw [if_pos c10] at H
     have c10b0 : decide (a3 < 0) = true := decide_eq_true c10
     clear c10
     (rw [c10b0])
     replace H := zbs H
     obtain ⟨t372, A11, H⟩ := H
     have H' := Am H
     clear H
     go_wp2_with (((with_reducible refine gate_callee (f := 293) rfl ?_); refine goesL_ (some 23) rfl rfl Tryz.func293 (by kernel_rfl) rfl #[.string a0, .string a1] rfl (by (try simp only [List.map_toArray, List.map_cons, List.map_nil]); rfl) ?_; (with_reducible refine (strings_Count.calls a0 a1 t372 _ A11.out).mono ?_); rintro e w' ⟨rfl, ⟨nd, rfl⟩⟩; refine ⟨_, rfl, ?_⟩))
     go_meet
     case rel => exact ⟨_, (wrap64 (t372 + 1)), (by rfl), H', ⟨by omega⟩, ⟨by repeat ((with_reducible first | exact HB.out | apply pw_below_drewN))⟩⟩
    ·rw [if_neg c10] at H
     have c10b0 : decide (a3 < 0) = false := decide_eq_false c10
     clear c10
     (rw [c10b0])
     have H' := Am H
     clear H
     go_wp2
     go_meet
     case rel => exact ⟨_, (a3), (by rfl), H', ⟨by omega⟩, ⟨HB.out⟩⟩
   case rest =>
    clear HC9
    try clear c5
    try clear c5b0
    try clear c5b1
    try clear c6
    try clear c6b0
    try clear c6b1
    obtain ⟨kq, x3_8, rfl, HA, HJ8, HB⟩ := hcut
    cases kq with
    | zero => exact absurd HA.out (by simp [q2i.j0])
    | succ kj8 =>
     have H := HA.out
     clear HA
     simp only [q2i.j0] at H
     obtain ⟨ji12, hji12⟩ : ∃ j_ : Int, (mn x3_8 (wrap64 ((a0.size : Int) + 1))) = j_ := ⟨_, rfl⟩
     replace H : (if 0 ≤ (ji12) then (if (ji12 : Int).toNat ≤ 17592186044416 then (q2i.l0 kj8 a0 a1 a2 (wrap64 ((ji12) - 1)) (List.replicate (ji12 : Int).toNat (⟨#[]⟩ : ByteArray)) 0) else (none)) else (none)) = some r := by (rw [hji12] at H; exact H)
     have hji12_ : (if (wrap64 ((a0.size : Int) + 1)) < x3_8 then (wrap64 ((a0.size : Int) + 1)) else x3_8) = ji12 := hji12
     replace H := ino H
     obtain ⟨c13, H⟩ := H
     have c13b0 := eq_true c13
     have c13b1 : decide (0 ≤ (ji12)) = true := decide_eq_true c13
     clear c13
     replace H := ino H
     obtain ⟨c14, H⟩ := H
     have c14b0 := eq_true c14
     have c14b1 : decide ((ji12 : Int).toNat ≤ 17592186044416) = true := decide_eq_true c14
     clear c14
     obtain ⟨y373, hy373⟩ : ∃ y_ : List ByteArray, y_ = (List.replicate (ji12 : Int).toNat (⟨#[]⟩ : ByteArray)) := ⟨_, rfl⟩
     replace H : (q2i.l0 kj8 a0 a1 a2 (wrap64 ((ji12) - 1)) y373 0) = some r := by (rw [hy373]; with_reducible exact H)
     have Ny373 := Am hy373
     clear hy373
     have H' := Am H
     clear H
     go_wp2_with (((with_reducible refine gate_dst (N := 31) rfl ?_); refine Kd.R_make Kd.string _ 9 rfl (N := 31) rfl 24 _ _ rfl ji12 rfl rfl Tryz.underlying24 (.string ⟨#[]⟩) 16 info9 rfl (by decide) (by omega) (⟨#[]⟩ : ByteArray) (ok := fun _ => True) (okp := fun _ => True) rfl (fun _ hk => hk) trivial (od (by assumption)) (Nat.le_trans (Nat.mul_le_mul_right _ (od (by assumption) : ji12.toNat ≤ 17592186044416)) (by omega)) (Below.refl _ _) (Nat.le_refl _) ?_; intro v374 w15 ho16 hb hg_ hnew_; clear hg_ hnew_; (rw [← Ny373.out] at ho16); have HO375 := Am (Kd.R_lower ho16 (below_size HB.out)); replace HB := Am (below_step HB.out hb); clear hb ho16))
     go_loopg [0, 10] kj8 (fun kq v0 v10 w' => ∃ (x0_2 : ByteArray) (x9_2 : List ByteArray) (x10_2 : Int), v0 = .string x0_2 ∧ v10 = .int .i64 x10_2 ∧ Aside0 (q2i.l0 kq x0_2 a1 a2 (wrap64 ((ji12) - 1)) x9_2 x10_2 = some r) ∧ Aside0 (kq ≤ kj8) ∧ Aside0 (Kd.R Kd.string 9 w' w.heap.size (fun _ => True) v374 x9_2) ∧ Aside0 (Below w.heap.size w w'))
     case atStart => exact ⟨(a0), (y373), (0), (by rfl), (by rfl), H', ⟨Nat.le_refl _⟩, ⟨by exact HO375.out⟩, ⟨HB.out⟩⟩
     case round =>
      clear H'
      try clear c13b0
      try clear c13b1
      try clear c14b0
      try clear c14b1
      obtain ⟨x0_2, x9_2, x10_2, rfl, rfl, HA, HK2, HO_9, HB⟩ := hrel
      cases gk with
      | zero => exact absurd HA.out (by simp [q2i.l0])
      | succ k2 =>
       have H := HA.out
       clear HA
       simp only [q2i.l0] at H
       by_cases c17 : x10_2 < (wrap64 ((ji12) - 1))
       ·rw [if_pos c17] at H
        have c17b0 : decide (x10_2 < (wrap64 ((ji12) - 1))) = true := decide_eq_true c17
        clear c17
        replace H := zbs H
        obtain ⟨t376, A18, H⟩ := H
        by_cases c19 : t376 < 0
        ·rw [if_pos c19] at H
         have c19b0 : decide (t376 < 0) = true := decide_eq_true c19
         clear c19
         replace H := ino H
         obtain ⟨c20, H⟩ := H
         have c20b0 : decide (0 ≤ x10_2) = true := decide_eq_true c20
         clear c20
         replace H := ino H
         obtain ⟨c21, H⟩ := H
         have c21b0 : decide (x10_2 < (x9_2.length : Int)) = true := decide_eq_true c21
         clear c21
         obtain ⟨y377, hy377⟩ : ∃ y_ : List ByteArray, y_ = (x9_2.set (x10_2 : Int).toNat x0_2) := ⟨_, rfl⟩
         replace H : (if 0 ≤ (wrap64 (x10_2 + 1)) then (if (wrap64 (x10_2 + 1)) ≤ (x9_2.length : Int) then (some (y377.take ((wrap64 (x10_2 + 1)) : Int).toNat)) else (none)) else (none)) = some r := by (rw [hy377]; with_reducible exact H)
         have Ny377 := Am hy377
         clear hy377
         obtain ⟨ji23, hji23⟩ : ∃ j_ : Int, (wrap64 (x10_2 + 1)) = j_ := ⟨_, rfl⟩
         replace H : (if 0 ≤ (ji23) then (if (ji23) ≤ (x9_2.length : Int) then (some (y377.take ((ji23) : Int).toNat)) else (none)) else (none)) = some r := by (rw [hji23] at H; exact H)
         have hji23w : (IntKind.i64.wrap (x10_2 + 1)) = ji23 := (i64_w _).trans hji23
         replace H := ino H
         obtain ⟨c24, H⟩ := H
         have c24b0 := eq_true c24
         have c24b1 : decide (0 ≤ (ji23)) = true := decide_eq_true c24
         clear c24
         replace H := ino H
         obtain ⟨c25, H⟩ := H
         have c25b0 := eq_true c25
         have c25b1 : decide ((ji23) ≤ (x9_2.length : Int)) = true := decide_eq_true c25
         clear c25
         obtain ⟨y378, hy378⟩ : ∃ y_ : List ByteArray, y_ = (y377.take ((ji23) : Int).toNat) := ⟨_, rfl⟩
         replace H : (some y378) = some r := by (rw [hy378]; with_reducible exact H)
         have Ny378 := Am hy378
         clear hy378
         obtain rfl := Option.some.inj H
         go_wp2_with (first | ((with_reducible refine gate_callee (f := 294) rfl ?_); refine goesL_ (some 39) rfl rfl Tryz.func294 (by kernel_rfl) rfl #[.string x0_2, .string a1] rfl (by (try simp only [List.map_toArray, List.map_cons, List.map_nil]); rfl) ?_; (with_reducible refine (strings_Index.calls x0_2 a1 t376 _ A18.out).mono ?_); rintro e w' ⟨rfl, ⟨nd, rfl⟩⟩; refine ⟨_, rfl, ?_⟩; (try (rw [drewN_self wr]; generalize hq_ : World.drewN wr _ = wr; have n0_ : Aside0 (Kd.R Kd.string 9 wr w.heap.size (fun _ => True) v374 x9_2) := ⟨by rw [← hq_]; exact (by (with_reducible repeat (apply Kd.R_drewN)); exact HO_9.out)⟩; have n1_ : Aside0 (Below w.heap.size w wr) := ⟨by rw [← hq_]; exact (by repeat ((with_reducible first | exact HB.out | apply pw_below_drewN)))⟩; clear HO_9 HB hq_; have HO_9 := n0_; have HB := n1_; clear n0_ n1_)); have p22 : 0 ≤ (x10_2 : Int) := od (by assumption); have q22 : (x10_2 : Int) < ((x9_2.length : Int) : Int) := od (by assumption); obtain ⟨go22, co22, eo22, gb22, gl22, cl22, HG22⟩ := Kd.R_form HO_9.out (by omega); (cases eo22); have GB22 := Am gb22; have GG22 := Am HG22; clear gb22 gl22 HG22; obtain ⟨hx22_0, hf22_0⟩ := Kd.R_celln (⟨#[]⟩ : ByteArray) HO_9.out (x10_2 : Int) p22 q22; replace p22 := eq_true p22; replace q22 := eq_true q22; obtain ⟨hy26_, hz26_⟩ := Kd.R_celln (⟨#[]⟩ : ByteArray) HO_9.out (x10_2 : Int) (od (by assumption)) (od (by assumption)); have HP26 := Kd.R_putg HO_9.out (x10_2 : Int) x0_2) | ((with_reducible refine gate_store (t := 9) (p := 61) rfl ?_); refine store_event (t := 9) (p := 61) (v := ?vo_w27) (w1 := (wr.setCell ⟨go22, (x10_2 : Int).toNat, none⟩ (.string x0_2))) ?hg ?ho ?hn ?hr ?_; (case ho => rfl); (case hg => rfl); (case hn => rfl); (case hr => (go_simp; done)); intro w27 hw; have hg : wr.grownBy w27 (some go22) := (by rw [hw]; exact HP26.2); have hp_ : Kd.R Kd.string 9 w27 w.heap.size (fun _ => True) (.slice (some ⟨go22, 0, none⟩) x9_2.length co22) y377 := (by rw [hw, Ny377.out]; exact HP26.1); clear HP26; replace HO_9 := Am hp_; replace HB := Am ((by rw [hw]; exact below_set (HB.out) GB22.out : Below w.heap.size w w27)); clear hg hw hp_; have hl_ : y377.length = x9_2.length := (by rw [Ny377.out, List.length_set]); have q28 : ((ji23) : Int) ≤ ((x9_2.length : Int) : Int) := od (by assumption); obtain ⟨i028, hi028, _, hsz28, _⟩ := info_parts info9; have hcut28 := cut_to (P := Tryz.prog) 24 9 .i64 Tryz.underlying24 hi028 (some ⟨go22, 0, none⟩) x9_2.length co22 (ji23) (od (by assumption)) q28 (Kd.R_reads' HO_9.out).2.1; have hr28 := Kd.R_take (m := ((ji23) : Int).toNat) HO_9.out (by omega); have hy28 : y378.length = ((ji23) : Int).toNat := (by rw [Ny378.out, List.length_take]; omega); rw [← Ny378.out] at hr28; rw [← hy28] at hr28 hcut28; clear hy28 hi028 hsz28 HO_9; have HO380 := Am hr28; clear hr28; replace q28 := eq_true q28))
         go_ret
         exact ⟨_, by rfl, by exact HO380.out, HB.out⟩
        ·rw [if_neg c19] at H
         have c19b0 : decide (t376 < 0) = false := decide_eq_false c19
         clear c19
         obtain ⟨ji29, hji29⟩ : ∃ j_ : Int, (wrap64 (t376 + a2)) = j_ := ⟨_, rfl⟩
         replace H : (if 0 ≤ (ji29) then (if (ji29) ≤ (x0_2.size : Int) then (if 0 ≤ x10_2 then (if x10_2 < (x9_2.length : Int) then (if 0 ≤ (wrap64 (t376 + (a1.size : Int))) then (if (wrap64 (t376 + (a1.size : Int))) ≤ (x0_2.size : Int) then (q2i.l0 k2 (x0_2.extract ((wrap64 (t376 + (a1.size : Int))) : Int).toNat x0_2.size) a1 a2 (wrap64 ((ji12) - 1)) (x9_2.set (x10_2 : Int).toNat (x0_2.extract 0 ((ji29) : Int).toNat)) (wrap64 (x10_2 + 1))) else (none)) else (none)) else (none)) else (none)) else (none)) else (none)) = some r := by (rw [hji29] at H; exact H)
         have hji29w : (IntKind.i64.wrap (t376 + a2)) = ji29 := (i64_w _).trans hji29
         replace H := ino H
         obtain ⟨c30, H⟩ := H
         have c30b0 := eq_true c30
         have c30b1 : decide (0 ≤ (ji29)) = true := decide_eq_true c30
         clear c30
         replace H := ino H
         obtain ⟨c31, H⟩ := H
         have c31b0 := eq_true c31
         have c31b1 : decide ((ji29) ≤ (x0_2.size : Int)) = true := decide_eq_true c31
         clear c31
         replace H := ino H
         obtain ⟨c32, H⟩ := H
         have c32b0 : decide (0 ≤ x10_2) = true := decide_eq_true c32
         clear c32
         replace H := ino H
         obtain ⟨c33, H⟩ := H
         have c33b0 : decide (x10_2 < (x9_2.length : Int)) = true := decide_eq_true c33
         clear c33
         obtain ⟨y381, hy381⟩ : ∃ y_ : List ByteArray, y_ = (x9_2.set (x10_2 : Int).toNat (x0_2.extract 0 ((ji29) : Int).toNat)) := ⟨_, rfl⟩
         replace H : (if 0 ≤ (wrap64 (t376 + (a1.size : Int))) then (if (wrap64 (t376 + (a1.size : Int))) ≤ (x0_2.size : Int) then (q2i.l0 k2 (x0_2.extract ((wrap64 (t376 + (a1.size : Int))) : Int).toNat x0_2.size) a1 a2 (wrap64 ((ji12) - 1)) y381 (wrap64 (x10_2 + 1))) else (none)) else (none)) = some r := by (rw [hy381]; with_reducible exact H)
         have Ny381 := Am hy381
         clear hy381
         obtain ⟨ji35, hji35⟩ : ∃ j_ : Int, (wrap64 (t376 + (a1.size : Int))) = j_ := ⟨_, rfl⟩
         replace H : (if 0 ≤ (ji35) then (if (ji35) ≤ (x0_2.size : Int) then (q2i.l0 k2 (x0_2.extract ((ji35) : Int).toNat x0_2.size) a1 a2 (wrap64 ((ji12) - 1)) y381 (wrap64 (x10_2 + 1))) else (none)) else (none)) = some r := by (rw [hji35] at H; exact H)
         have hji35w : (IntKind.i64.wrap (t376 + (a1.size : Int))) = ji35 := (i64_w _).trans hji35
         replace H := ino H
         obtain ⟨c36, H⟩ := H
         have c36b0 := eq_true c36
         have c36b1 : decide (0 ≤ (ji35)) = true := decide_eq_true c36
         clear c36
         replace H := ino H
         obtain ⟨c37, H⟩ := H
         have c37b0 := eq_true c37
         have c37b1 : decide ((ji35) ≤ (x0_2.size : Int)) = true := decide_eq_true c37
         clear c37
         have H' := Am H
         clear H
         go_wp2_with (first | ((with_reducible refine gate_callee (f := 294) rfl ?_); refine goesL_ (some 39) rfl rfl Tryz.func294 (by kernel_rfl) rfl #[.string x0_2, .string a1] rfl (by (try simp only [List.map_toArray, List.map_cons, List.map_nil]); rfl) ?_; (with_reducible refine (strings_Index.calls x0_2 a1 t376 _ A18.out).mono ?_); rintro e w' ⟨rfl, ⟨nd, rfl⟩⟩; refine ⟨_, rfl, ?_⟩; (try (rw [drewN_self wr]; generalize hq_ : World.drewN wr _ = wr; have n0_ : Aside0 (Kd.R Kd.string 9 wr w.heap.size (fun _ => True) v374 x9_2) := ⟨by rw [← hq_]; exact (by (with_reducible repeat (apply Kd.R_drewN)); exact HO_9.out)⟩; have n1_ : Aside0 (Below w.heap.size w wr) := ⟨by rw [← hq_]; exact (by repeat ((with_reducible first | exact HB.out | apply pw_below_drewN)))⟩; clear HO_9 HB hq_; have HO_9 := n0_; have HB := n1_; clear n0_ n1_)); have p34 : 0 ≤ (x10_2 : Int) := od (by assumption); have q34 : (x10_2 : Int) < ((x9_2.length : Int) : Int) := od (by assumption); obtain ⟨go34, co34, eo34, gb34, gl34, cl34, HG34⟩ := Kd.R_form HO_9.out (by omega); (cases eo34); have GB34 := Am gb34; have GG34 := Am HG34; clear gb34 gl34 HG34; obtain ⟨hx34_0, hf34_0⟩ := Kd.R_celln (⟨#[]⟩ : ByteArray) HO_9.out (x10_2 : Int) p34 q34; replace p34 := eq_true p34; replace q34 := eq_true q34; obtain ⟨hy38_, hz38_⟩ := Kd.R_celln (⟨#[]⟩ : ByteArray) HO_9.out (x10_2 : Int) (od (by assumption)) (od (by assumption)); have HP38 := Kd.R_putg HO_9.out (x10_2 : Int) (x0_2.extract 0 ((ji29) : Int).toNat)) | ((with_reducible refine gate_store (t := 9) (p := 49) rfl ?_); refine store_event (t := 9) (p := 49) (v := ?vo_w39) (w1 := (wr.setCell ⟨go34, (x10_2 : Int).toNat, none⟩ (.string (x0_2.extract 0 ((ji29) : Int).toNat)))) ?hg ?ho ?hn ?hr ?_; (case ho => rfl); (case hg => rfl); (case hn => rfl); (case hr => (go_simp; done)); intro w39 hw; have hg : wr.grownBy w39 (some go34) := (by rw [hw]; exact HP38.2); have hp_ : Kd.R Kd.string 9 w39 w.heap.size (fun _ => True) (.slice (some ⟨go34, 0, none⟩) x9_2.length co34) y381 := (by rw [hw, Ny381.out]; exact HP38.1); clear HP38; replace HO_9 := Am hp_; replace HB := Am ((by rw [hw]; exact below_set (HB.out) GB34.out : Below w.heap.size w w39)); clear hg hw hp_))
         go_roundg k2
         case measure => have := HJ8.out; have := HK2.out; omega
         case rel => exact ⟨(x0_2.extract ((ji35) : Int).toNat x0_2.size), (y381), (wrap64 (x10_2 + 1)), (by rfl), (by rfl), H', ⟨by have := HJ8.out; have := HK2.out; omega⟩, ⟨by exact HO_9.out⟩, ⟨HB.out⟩⟩
       ·rw [if_neg c17] at H
        have c17b0 : decide (x10_2 < (wrap64 ((ji12) - 1))) = false := decide_eq_false c17
        clear c17
        replace H := ino H
        obtain ⟨c40, H⟩ := H
        have c40b0 : decide (0 ≤ x10_2) = true := decide_eq_true c40
        clear c40
        replace H := ino H
        obtain ⟨c41, H⟩ := H
        have c41b0 : decide (x10_2 < (x9_2.length : Int)) = true := decide_eq_true c41
        clear c41
        obtain ⟨y382, hy382⟩ : ∃ y_ : List ByteArray, y_ = (x9_2.set (x10_2 : Int).toNat x0_2) := ⟨_, rfl⟩
        replace H : (if 0 ≤ (wrap64 (x10_2 + 1)) then (if (wrap64 (x10_2 + 1)) ≤ (x9_2.length : Int) then (some (y382.take ((wrap64 (x10_2 + 1)) : Int).toNat)) else (none)) else (none)) = some r := by (rw [hy382]; with_reducible exact H)
        have Ny382 := Am hy382
        clear hy382
        obtain ⟨ji43, hji43⟩ : ∃ j_ : Int, (wrap64 (x10_2 + 1)) = j_ := ⟨_, rfl⟩
        replace H : (if 0 ≤ (ji43) then (if (ji43) ≤ (x9_2.length : Int) then (some (y382.take ((ji43) : Int).toNat)) else (none)) else (none)) = some r := by (rw [hji43] at H; exact H)
        have hji43w : (IntKind.i64.wrap (x10_2 + 1)) = ji43 := (i64_w _).trans hji43
        replace H := ino H
        obtain ⟨c44, H⟩ := H
        have c44b0 := eq_true c44
        have c44b1 : decide (0 ≤ (ji43)) = true := decide_eq_true c44
        clear c44
        replace H := ino H
        obtain ⟨c45, H⟩ := H
        have c45b0 := eq_true c45
        have c45b1 : decide ((ji43) ≤ (x9_2.length : Int)) = true := decide_eq_true c45
        clear c45
        obtain ⟨y383, hy383⟩ : ∃ y_ : List ByteArray, y_ = (y382.take ((ji43) : Int).toNat) := ⟨_, rfl⟩
        replace H : (some y383) = some r := by (rw [hy383]; with_reducible exact H)
        have Ny383 := Am hy383
        clear hy383
        obtain rfl := Option.some.inj H
        have p42 : 0 ≤ (x10_2 : Int) := od (by assumption)
        have q42 : (x10_2 : Int) < ((x9_2.length : Int) : Int) := od (by assumption)
        obtain ⟨go42, co42, eo42, gb42, gl42, cl42, HG42⟩ := Kd.R_form HO_9.out (by omega)
        (cases eo42)
        have GB42 := Am gb42
        have GG42 := Am HG42
        clear gb42 gl42 HG42
        obtain ⟨hx42_0, hf42_0⟩ := Kd.R_celln (⟨#[]⟩ : ByteArray) HO_9.out (x10_2 : Int) p42 q42
        replace p42 := eq_true p42
        replace q42 := eq_true q42
        have HP46 := Kd.R_putg HO_9.out (x10_2 : Int) x0_2
        go_wp2_with (((with_reducible refine gate_store (t := 9) (p := 61) rfl ?_); refine store_event (t := 9) (p := 61) (v := ?vo_w47) (w1 := (wr.setCell ⟨go42, (x10_2 : Int).toNat, none⟩ (.string x0_2))) ?hg ?ho ?hn ?hr ?_; (case ho => rfl); (case hg => rfl); (case hn => rfl); (case hr => (go_simp; done)); intro w47 hw; have hg : wr.grownBy w47 (some go42) := (by rw [hw]; exact HP46.2); have hp_ : Kd.R Kd.string 9 w47 w.heap.size (fun _ => True) (.slice (some ⟨go42, 0, none⟩) x9_2.length co42) y382 := (by rw [hw, Ny382.out]; exact HP46.1); clear HP46; replace HO_9 := Am hp_; replace HB := Am ((by rw [hw]; exact below_set (HB.out) GB42.out : Below w.heap.size w w47)); clear hg hw hp_; have hl_ : y382.length = x9_2.length := (by rw [Ny382.out, List.length_set]); have q48 : ((ji43) : Int) ≤ ((x9_2.length : Int) : Int) := od (by assumption); obtain ⟨i048, hi048, _, hsz48, _⟩ := info_parts info9; have hcut48 := cut_to (P := Tryz.prog) 24 9 .i64 Tryz.underlying24 hi048 (some ⟨go42, 0, none⟩) x9_2.length co42 (ji43) (od (by assumption)) q48 (Kd.R_reads' HO_9.out).2.1; have hr48 := Kd.R_take (m := ((ji43) : Int).toNat) HO_9.out (by omega); have hy48 : y383.length = ((ji43) : Int).toNat := (by rw [Ny383.out, List.length_take]; omega); rw [← Ny383.out] at hr48; rw [← hy48] at hr48 hcut48; clear hy48 hi048 hsz48 HO_9; have HO385 := Am hr48; clear hr48; replace q48 := eq_true q48))
        go_ret
        exact ⟨_, by rfl, by exact HO385.out, HB.out⟩
end Go.Proofs.YtafhjhdohclchaaGreatDoor.G
namespace Go.Proofs.YtafhjhdohclchaaGreatDoor.G
open Go.RowKit Go.Proofs.YtafhjhdohclchaaGreatDoorW.PrintWords Go.Proofs.YtafhjhdohclchaaGreatDoorW.PrintLast Go.Proofs.YtafhjhdohclchaaGreatDoorW.PrintMore
attribute [local go_sem] min2_int min_two
attribute [local go_sem high] str_leq
attribute [local go_sem] binOp_string_geq
def q2h.f (k : Nat) (a0 : ByteArray) (a1 : ByteArray) : Option (List ByteArray) := (q2i.f k a0 a1 0 (-1)).bind fun t386 => (some t386)
theorem q2h.mono : ∀ a0 a1 k, LeO (q2h.f k a0 a1) (q2h.f (k + 1) a0 a1) := by
 intro a0 a1 k
 unfold q2h.f
 repeat' first | (with_reducible exact q2i.mono _ _ _ _ _) | (with_reducible exact LeO.refl _) | (with_reducible refine LeO.bind ?_ (fun _ => ?_))
set_option maxHeartbeats 8000000 in
set_option maxRecDepth 100000 in
theorem q2h.calls (k : Nat) (a0 : ByteArray) (a1 : ByteArray) (r : List ByteArray) (w : World) (h : q2h.f k a0 a1 = some r) :
  Calls Tryz.prog 238 #[.string a0, .string a1] w fun e w' => ∃ v0_ : Value, e = .returned (v0_) ∧ Kd.R Kd.string 9 w' w.heap.size (fun _ => True) v0_ r ∧ Below w.heap.size w w' := by
 have HB := Am (Below.refl w.heap.size w)
 have H : ((q2i.f k a0 a1 0 (-1)).bind fun t386 => (some t386)) = some r := h
 clear h
 replace H := zbs H
 obtain ⟨t386, A3, H⟩ := H
 obtain rfl := Option.some.inj H
 go_enter Tryz.func238, Tryz.ntmps238
 go_wp2_with (((with_reducible refine gate_callee (f := 269) rfl ?_); refine goesL_ (some 7) rfl rfl Tryz.func269 (by kernel_rfl) rfl #[.string a0, .string a1, .int .i64 0, .int .i64 (-1)] rfl (by (try simp only [List.map_toArray, List.map_cons, List.map_nil]); rfl) ?_; (with_reducible refine (q2i.calls k a0 a1 0 (-1) t386 _ A3.out).mono ?_); rintro e w4 ⟨v387, rfl, ho0, hb⟩; refine ⟨_, rfl, ?_⟩; have HO388 := Am (Kd.R_lower ho0 (below_size HB.out)); replace HB := Am (below_step HB.out hb); (try clear hb); (try clear ho0)))
 go_ret
 exact ⟨_, by rfl, by exact HO388.out, HB.out⟩
end Go.Proofs.YtafhjhdohclchaaGreatDoor.G
namespace Go.Proofs.YtafhjhdohclchaaGreatDoor.G
open Go.RowKit Go.Proofs.YtafhjhdohclchaaGreatDoorW.PrintWords Go.Proofs.YtafhjhdohclchaaGreatDoorW.PrintLast Go.Proofs.YtafhjhdohclchaaGreatDoorW.PrintMore
attribute [local go_sem] min2_int min_two
theorem bt_get (s : ByteArray) (i : Nat) (h : i < s.data.toList.length) : bt s (i : Int) = ((s.data.toList[i]).toNat : Int) := by
  have h' : i < s.size := by rw [size_len]; exact h
  unfold bt
  rw [dif_pos (by simpa using h')]
  simp [ByteArray.getElem_eq_getElem_data]
theorem u8_eq (a b : UInt8) : ((a.toNat : Int) = (b.toNat : Int)) ↔ a = b := by
  constructor
  · intro h; exact UInt8.toNat_inj.1 (by omega)
  · intro h; rw [h]
theorem l3Cut_ev (s : ByteArray) (c : UInt8) (hs : s.size ≤ 4611686018427387904) : ∀ (d i f : Nat) (acc : List ByteArray), s.size = i + d → f ≤ i → (∀ b ∈ (s.data.toList.drop f).take (i - f), b ≠ c) → acc.length + (s.size - i) < 8796093022208 →
    Ev (fun k => q1t.l0 k s (c.toNat : Int) acc (f : Int) (i : Int)) (acc ++ (cutL c (s.data.toList.drop f)).map bs) := by
  intro d
  induction d with
  | zero =>
    intro i f acc hd hf hp ha
    have e : ((s.data.toList.drop f).take (i - f)) = s.data.toList.drop f := List.take_of_length_le (by rw [List.length_drop, ← size_len]; omega)
    have hx : s.extract f i = bs (s.data.toList.drop f) := by rw [extract_bs, e]
    rw [e] at hp
    have hw : wrap64 ((i : Int) + 1) = (i : Int) + 1 := by unfold wrap64; omega
    refine Ev.step (f := fun k => q1t.l0 k s (c.toNat : Int) (acc ++ [bs (s.data.toList.drop f)]) ((i : Int) + 1) ((i : Int) + 1)) (fun k => ?_) ?_
    · simp only [q1t.l0]
      rw [if_pos (by omega), if_pos (by omega), if_pos (by omega), if_pos (by omega), if_pos (by omega), hw]
      simp only [Int.toNat_natCast, hx]
    · refine Ev.step (f := fun _ => some (acc ++ [bs (s.data.toList.drop f)])) (fun k => ?_) ?_
      · simp only [q1t.l0]
        rw [if_neg (by omega)]
      · rw [cutL_none c _ hp]
        exact Ev.now _
  | succ d ih =>
    intro i f acc hd hf hp ha
    have hi : i < s.data.toList.length := by rw [← size_len]; omega
    have hw : wrap64 ((i : Int) + 1) = ((i + 1 : Nat) : Int) := by unfold wrap64; omega
    by_cases hc : s.data.toList[i] = c
    · have hx : s.extract f i = bs ((s.data.toList.drop f).take (i - f)) := extract_bs s f i
      refine Ev.step (f := fun k => q1t.l0 k s (c.toNat : Int) (acc ++ [bs ((s.data.toList.drop f).take (i - f))]) ((i + 1 : Nat) : Int) ((i + 1 : Nat) : Int)) (fun k => ?_) ?_
      · simp only [q1t.l0]
        rw [if_pos (by omega), if_neg (by omega), if_pos (by omega), if_pos (by omega), bt_get s i hi, if_pos ((u8_eq _ _).2 hc), if_pos (by omega), if_pos (by omega), if_pos (by omega), hw]
        simp only [Int.toNat_natCast, hx]
      · have hd' : s.data.toList.drop f = (s.data.toList.drop f).take (i - f) ++ c :: s.data.toList.drop (i + 1) := by
          conv => lhs; rw [← List.take_append_drop (i - f) (s.data.toList.drop f)]
          congr 1
          rw [List.drop_drop, show f + (i - f) = i by omega, List.drop_eq_getElem_cons hi, hc]
        have h2 := ih (i + 1) (i + 1) (acc ++ [bs ((s.data.toList.drop f).take (i - f))]) (by omega) (Nat.le_refl _) (by simp) (by simp; omega)
        have e : acc ++ (cutL c (s.data.toList.drop f)).map bs = acc ++ [bs ((s.data.toList.drop f).take (i - f))] ++ (cutL c (s.data.toList.drop (i + 1))).map bs := by
          conv => lhs; rw [hd', cutL_at c _ _ hp]
          simp
        rw [e]
        exact h2
    · refine Ev.step (f := fun k => q1t.l0 k s (c.toNat : Int) acc (f : Int) ((i + 1 : Nat) : Int)) (fun k => ?_) ?_
      · simp only [q1t.l0]
        rw [if_pos (by omega), if_neg (by omega), if_pos (by omega), if_pos (by omega), bt_get s i hi, if_neg (fun h => hc ((u8_eq _ _).1 h)), hw]
      · refine ih (i + 1) f acc (by omega) (by omega) ?_ (by omega)
        intro b hb
        rw [show i + 1 - f = (i - f) + 1 by omega, List.take_add_one, List.getElem?_drop, show f + (i - f) = i by omega, List.getElem?_eq_getElem hi] at hb
        rcases List.mem_append.1 hb with hb | hb
        · exact hp b hb
        · have : b = s.data.toList[i] := by simpa using hb
          rw [this]; exact hc
theorem l3Cut_tells (s : ByteArray) (c : UInt8) (hs : s.size ≤ 1048576) : Ev (fun k => q1t.f k s (c.toNat : Int)) ((cutL c s.data.toList).map bs) := by
  have := l3Cut_ev s c (by omega) s.size 0 0 [] (by omega) (Nat.le_refl _) (by simp) (by simp; omega)
  simpa [q1t.f] using this
theorem genSplit_step (k : Nat) (s sep : ByteArray) (x3 : Int) (xs : List ByteArray) (i m a b e : Int) (z : Nat) (hz : sep.size = z) (hI : strings_Index.f s sep = some m) (h1 : i < x3) (h2 : ¬ m < 0) (ha : wrap64 (m + 0) = a) (h3 : 0 ≤ a) (h4 : a ≤ (s.size : Int)) (h7 : 0 ≤ i) (h8 : i < (xs.length : Int)) (hb : wrap64 (m + (z : Int)) = b) (h5 : 0 ≤ b) (h6 : b ≤ (s.size : Int)) (he : wrap64 (i + 1) = e) :
    q2i.l0 (k + 1) s sep 0 x3 xs i = q2i.l0 k (s.extract b.toNat s.size) sep 0 x3 (xs.set i.toNat (s.extract 0 a.toNat)) e := by
  simp only [q2i.l0]
  rw [if_pos h1, hI]
  simp only [Option.bind_some]
  rw [if_neg h2, ha, if_pos h3, if_pos h4, if_pos h7, if_pos h8, hz, hb, if_pos h5, if_pos h6, he]
theorem split_ev (c : UInt8) : ∀ (n : Nat) (l : List UInt8) (i : Nat) (xs : List ByteArray), l.count c = n → l.length ≤ 1048576 → xs.length = i + n + 1 → xs.length ≤ 1048577 →
    Ev (fun k => q2i.l0 k (bs l) ⟨#[c]⟩ 0 ((xs.length : Int) - 1) xs (i : Int)) (xs.take i ++ (cutL c l).map bs) := by
  intro n
  induction n with
  | zero =>
    intro l i xs hn hl hx hm
    have hw : wrap64 ((i : Int) + 1) = ((i + 1 : Nat) : Int) := by unfold wrap64; omega
    refine Ev.step (f := fun _ => some (xs.take i ++ (cutL c l).map bs)) (fun k => ?_) (Ev.now _)
    simp only [q2i.l0]
    rw [if_neg (by omega), if_pos (by omega), if_pos (by omega), hw, if_pos (by omega), if_pos (by omega)]
    have hall : ∀ b ∈ l, b ≠ c := by
      intro b hb e
      subst e
      have := List.count_pos_iff.2 hb
      omega
    rw [cutL_none c l hall]
    simp only [Int.toNat_natCast, List.map_cons, List.map_nil]
    congr 1
    have h1 : i < (xs.set i (bs l)).length := by rw [List.length_set]; omega
    rw [List.take_succ_eq_append_getElem h1, List.getElem_set_self, List.take_set_of_le (Nat.le_refl _)]
  | succ n ih =>
    intro l i xs hn hl hx hm
    have hw : wrap64 ((i : Int) + 1) = ((i + 1 : Nat) : Int) := by unfold wrap64; omega
    rcases indexByte_spec l c with ⟨h1, h2, h3⟩ | ⟨p, q, h1, h2, h3⟩
    · omega
    · have hlen : p.length + 1 + q.length = l.length := by rw [h1]; simp; omega
      have hI : strings_Index.f (bs l) ⟨#[c]⟩ = some (p.length : Int) := by
        unfold strings_Index.f
        rw [if_pos (by rfl), bs_data]
        simp [h2]
      have ht : (bs l).extract 0 p.length = bs p := by rw [extract_bs, bs_data, h1]; simp
      have hd : (bs l).extract (p.length + 1) (bs l).size = bs q := by
        rw [extract_bs, bs_data, bs_size, h1]
        rw [List.take_of_length_le (by simp; omega)]
        congr 1
        rw [List.drop_append]
        simp
      have hcnt : q.count c = n := by
        rw [h1, List.count_append, List.count_cons_self, List.count_eq_zero.2 (fun h => h3 c h rfl)] at hn
        omega
      have h4 := ih q (i + 1) (xs.set i (bs p)) hcnt (by omega) (by rw [List.length_set]; omega) (by rw [List.length_set]; omega)
      refine Ev.step (f := fun k => q2i.l0 k (bs q) ⟨#[c]⟩ 0 ((xs.length : Int) - 1) (xs.set i (bs p)) ((i + 1 : Nat) : Int)) (fun k => ?_) ?_
      · clear hw
        have hbl : (bs l).size = l.length := bs_size l
        have c4 : (p.length : Int) ≤ ((bs l).size : Int) := by rw [hbl]; omega
        have c8 : ((p.length + 1 : Nat) : Int) ≤ ((bs l).size : Int) := by rw [hbl]; omega
        have e1 : (p.length : Int) + ((1 : Nat) : Int) = ((p.length + 1 : Nat) : Int) := by omega
        have e2 : (i : Int) + 1 = ((i + 1 : Nat) : Int) := by omega
        have h := genSplit_step k (bs l) ⟨#[c]⟩ ((xs.length : Int) - 1) xs (i : Int) (p.length : Int) (p.length : Int) ((p.length + 1 : Nat) : Int) ((i + 1 : Nat) : Int) 1 rfl hI (by omega) (by omega) (by rw [Int.add_zero]; exact w64_id _ (by omega) (by omega)) (by omega) c4 (by omega) (by omega) (by rw [e1]; exact w64_id _ (by omega) (by omega)) (by omega) c8 (by rw [e2]; exact w64_id _ (by omega) (by omega))
        rw [Int.toNat_natCast, Int.toNat_natCast, Int.toNat_natCast, ht, hd] at h
        exact h
      · rw [List.length_set] at h4
        have e : (xs.set i (bs p)).take (i + 1) ++ (cutL c q).map bs = xs.take i ++ (cutL c l).map bs := by
          have h5 : i < (xs.set i (bs p)).length := by rw [List.length_set]; omega
          rw [List.take_succ_eq_append_getElem h5, List.getElem_set_self, List.take_set_of_le (Nat.le_refl _)]
          conv => rhs; rw [h1, cutL_at c p q h3]
          simp
        rw [e] at h4
        exact h4
theorem split_tells (s : ByteArray) (c : UInt8) (hs : s.size ≤ 1048576) : Ev (fun k => q2h.f k s ⟨#[c]⟩) ((cutL c s.data.toList).map bs) := by
  have hcnt : s.data.toList.count c ≤ s.size := by rw [size_len]; exact List.count_le_length
  have h1 := split_ev c (s.data.toList.count c) s.data.toList 0 (List.replicate (s.data.toList.count c + 1) ⟨#[]⟩) rfl (by rw [← size_len]; exact hs) (by rw [List.length_replicate]; omega) (by rw [List.length_replicate]; omega)
  rw [bs_toList] at h1
  have hC : strings_Count.f s ⟨#[c]⟩ = some ((s.data.toList.count c : Nat) : Int) := by
    unfold strings_Count.f
    rw [if_pos (by rfl)]
    simp [Lib.countByte]
  have hw : wrap64 (((s.data.toList.count c : Nat) : Int) + 1) = ((s.data.toList.count c + 1 : Nat) : Int) := by unfold wrap64; omega
  have hw2 : wrap64 ((s.size : Int) + 1) = ((s.size + 1 : Nat) : Int) := by unfold wrap64; omega
  have hmn : mn ((s.data.toList.count c + 1 : Nat) : Int) ((s.size + 1 : Nat) : Int) = ((s.data.toList.count c + 1 : Nat) : Int) := by unfold mn; rw [if_neg (by omega)]
  have hw3 : wrap64 (((s.data.toList.count c + 1 : Nat) : Int) - 1) = ((List.replicate (s.data.toList.count c + 1) (⟨#[]⟩ : ByteArray)).length : Int) - 1 := by
    rw [List.length_replicate]; unfold wrap64; omega
  refine Ev.congr (f := fun k => q2i.j0 k s ⟨#[c]⟩ 0 ((s.data.toList.count c + 1 : Nat) : Int)) (fun k => ?_) ?_
  · unfold q2h.f q2i.f
    rw [if_neg (by omega), if_neg (by simp [toList_data]), if_pos (by omega), hC]
    simp only [Option.bind_some, hw]
    cases q2i.j0 k s ⟨#[c]⟩ 0 ((s.data.toList.count c + 1 : Nat) : Int) <;> rfl
  · refine Ev.step (f := fun k => q2i.l0 k s ⟨#[c]⟩ 0 (((List.replicate (s.data.toList.count c + 1) (⟨#[]⟩ : ByteArray)).length : Int) - 1) (List.replicate (s.data.toList.count c + 1) ⟨#[]⟩) 0) (fun k => ?_) (by simpa using h1)
    simp only [q2i.j0]
    rw [hw2, hmn, if_pos (by omega), if_pos (by omega), hw3]
    simp only [Int.toNat_natCast]
end Go.Proofs.YtafhjhdohclchaaGreatDoor.G
namespace Go.Proofs.YtafhjhdohclchaaGreatDoor.G
open Go.RowKit Go.Proofs.YtafhjhdohclchaaGreatDoorW.PrintWords Go.Proofs.YtafhjhdohclchaaGreatDoorW.PrintLast Go.Proofs.YtafhjhdohclchaaGreatDoorW.PrintMore
attribute [local go_sem] min2_int min_two
attribute [local go_sem high] str_leq
attribute [local go_sem] binOp_string_geq
def qi.l0 : Nat → ByteArray → Int → Int → Option (Int)
 | 0, _, _, _ => none
 | k + 1, x0, x7, x8 => if x8 < x7 then (if 0 ≤ x8 then (if x8 < (x0.size : Int) then (if (bt x0 x8) < 97 then (some 5) else (if (bt x0 x8) > 122 then (some 5) else (qi.l0 k x0 x7 (wrap64 (x8 + 1))))) else (none)) else (none)) else (if (x0.size : Int) > 4 then (some 2) else (some 0))
def qi.f (k : Nat) (a0 : ByteArray) : Option (Int) := if a0.toList = ([] : List UInt8) then (some 5) else (qi.l0 k a0 (a0.size : Int) 0)
theorem qi.mono_l : ∀ k, (∀ y0 y1 y2, LeO (qi.l0 k y0 y1 y2) (qi.l0 (k + 1) y0 y1 y2))
 | 0 => fun _ _ _ r h => by simp [qi.l0] at h
 | k + 1 => by
  have ih0 := qi.mono_l k
  ·intro y0 y1 y2
   unfold qi.l0
   repeat' first | (with_reducible exact ih0 _ _ _) | (with_reducible exact LeO.refl _) | (with_reducible refine LeO.ite ?_ ?_)
theorem qi.mono : ∀ a0 k, LeO (qi.f k a0) (qi.f (k + 1) a0) := by
 intro a0 k
 have ih0 := qi.mono_l k
 unfold qi.f
 repeat' first | (with_reducible exact ih0 _ _ _) | (with_reducible exact LeO.refl _) | (with_reducible refine LeO.ite ?_ ?_)
set_option maxHeartbeats 8000000 in
set_option maxRecDepth 100000 in
theorem qi.calls (k : Nat) (a0 : ByteArray) (r : Int) (w : World) (h : qi.f k a0 = some r) :
  Calls Tryz.prog 239 #[.string a0] w fun e w' => e = .returned (.int .i64 r) ∧ Drawn0 w w' := by
 have H : (if a0.toList = ([] : List UInt8) then (some 5) else (qi.l0 k a0 (a0.size : Int) 0)) = some r := h
 clear h
 by_cases c2 : a0.toList = ([] : List UInt8)
 ·rw [if_pos c2] at H
  have c2b0 : (a0.toList == ([] : List UInt8)) = true := beq_iff_eq.mpr c2
  have c2b1 : (a0.toList != ([] : List UInt8)) = false := bne_eq_false_iff_eq.mpr c2
  clear c2
  obtain rfl := Option.some.inj H
  go_enter Tryz.func239, Tryz.ntmps239
  go_wp2
  go_ret
  exact ⟨by rfl, by repeat (exact Drawn0.refl _)⟩
 ·rw [if_neg c2] at H
  have c2b0 : (a0.toList == ([] : List UInt8)) = false := beq_eq_false_iff_ne.mpr c2
  have c2b1 : (a0.toList != ([] : List UInt8)) = true := bne_iff_ne.mpr c2
  have H' := Am H
  clear H
  go_enter Tryz.func239, Tryz.ntmps239
  go_wp2
  go_loopg [8] k (fun kq v8 w' => ∃ (x8_1 : Int), v8 = .int .i64 x8_1 ∧ Aside0 (qi.l0 kq a0 (a0.size : Int) x8_1 = some r) ∧ Aside0 (kq ≤ k) ∧ Drawn0 w w')
  case atStart => exact ⟨(0), (by rfl), H', ⟨Nat.le_refl _⟩, by repeat (exact Drawn0.refl _)⟩
  case round =>
   clear H'
   try clear c2
   try clear c2b0
   try clear c2b1
   obtain ⟨x8_1, rfl, HA, HK1, ⟨m1, rfl⟩⟩ := hrel
   cases gk with
   | zero => exact absurd HA.out (by simp [qi.l0])
   | succ k1 =>
    have H := HA.out
    clear HA
    simp only [qi.l0] at H
    by_cases c3 : x8_1 < (a0.size : Int)
    ·rw [if_pos c3] at H
     have c3b0 : decide (x8_1 < (a0.size : Int)) = true := decide_eq_true c3
     clear c3
     replace H := ino H
     obtain ⟨c4, H⟩ := H
     have c4b0 : decide (0 ≤ x8_1) = true := decide_eq_true c4
     clear c4
     replace H := ino H
     obtain ⟨c5, H⟩ := H
     have c5b0 : decide (x8_1 < (a0.size : Int)) = true := decide_eq_true c5
     clear c5
     by_cases c7 : (bt a0 x8_1) < 97
     ·rw [if_pos c7] at H
      have c7b0 : decide ((bt a0 x8_1) < 97) = true := decide_eq_true c7
      clear c7
      obtain rfl := Option.some.inj H
      have p6 : 0 ≤ (x8_1 : Int) := od (by assumption)
      have q6 : x8_1 < (a0.size : Int) := od (by assumption)
      have hx6 := bt_at a0 x8_1
      replace p6 := eq_true p6
      replace q6 := eq_true q6
      go_wp2
      go_ret
      exact ⟨by rfl, by repeat (first | exact Drawn0.refl _ | apply Drawn0.step)⟩
     ·rw [if_neg c7] at H
      have c7b0 : decide ((bt a0 x8_1) < 97) = false := decide_eq_false c7
      clear c7
      by_cases c9 : (bt a0 x8_1) > 122
      ·rw [if_pos c9] at H
       have c9b0 : decide (122 < (bt a0 x8_1)) = true := decide_eq_true c9
       clear c9
       obtain rfl := Option.some.inj H
       have p6 : 0 ≤ (x8_1 : Int) := od (by assumption)
       have q6 : x8_1 < (a0.size : Int) := od (by assumption)
       have hx6 := bt_at a0 x8_1
       replace p6 := eq_true p6
       replace q6 := eq_true q6
       have p8 : 0 ≤ (x8_1 : Int) := od (by assumption)
       have q8 : x8_1 < (a0.size : Int) := od (by assumption)
       have hx8 := bt_at a0 x8_1
       replace p8 := eq_true p8
       replace q8 := eq_true q8
       go_wp2
       go_ret
       exact ⟨by rfl, by repeat (first | exact Drawn0.refl _ | apply Drawn0.step)⟩
      ·rw [if_neg c9] at H
       have c9b0 : decide (122 < (bt a0 x8_1)) = false := decide_eq_false c9
       clear c9
       have H' := Am H
       clear H
       have p6 : 0 ≤ (x8_1 : Int) := od (by assumption)
       have q6 : x8_1 < (a0.size : Int) := od (by assumption)
       have hx6 := bt_at a0 x8_1
       replace p6 := eq_true p6
       replace q6 := eq_true q6
       have p8 : 0 ≤ (x8_1 : Int) := od (by assumption)
       have q8 : x8_1 < (a0.size : Int) := od (by assumption)
       have hx8 := bt_at a0 x8_1
       replace p8 := eq_true p8
       replace q8 := eq_true q8
       go_wp2
       go_roundg k1
       case measure => have := HK1.out; omega
       case rel => exact ⟨(wrap64 (x8_1 + 1)), (by rfl), H', ⟨by have := HK1.out; omega⟩, by repeat (first | exact Drawn0.refl _ | apply Drawn0.step)⟩
    ·rw [if_neg c3] at H
     have c3b0 : decide (x8_1 < (a0.size : Int)) = false := decide_eq_false c3
     clear c3
     by_cases c10 : (a0.size : Int) > 4
     ·rw [if_pos c10] at H
      have c10b0 : decide (4 < (a0.size : Int)) = true := decide_eq_true c10
      have c10b1 : decide (4 < a0.size) = true := decide_eq_true (by omega)
      clear c10
      obtain rfl := Option.some.inj H
      go_wp2
      go_ret
      exact ⟨by rfl, by repeat (first | exact Drawn0.refl _ | apply Drawn0.step)⟩
     ·rw [if_neg c10] at H
      have c10b0 : decide (4 < (a0.size : Int)) = false := decide_eq_false c10
      have c10b1 : decide (4 < a0.size) = false := decide_eq_false (by omega)
      clear c10
      obtain rfl := Option.some.inj H
      go_wp2
      go_ret
      exact ⟨by rfl, by repeat (first | exact Drawn0.refl _ | apply Drawn0.step)⟩
def qr.f (a0 : Int) (a1 : Int) (a2 : Int) : Option (Bool) := if a0 ≥ a1 then (some (decide (a0 ≤ a2))) else (some false)
set_option maxHeartbeats 8000000 in
set_option maxRecDepth 100000 in
theorem qr.calls (a0 : Int) (a1 : Int) (a2 : Int) (r : Bool) (w : World) (h : qr.f a0 a1 a2 = some r) :
  Calls Tryz.prog 69 #[.int .i64 a0, .int .i64 a1, .int .i64 a2] w fun e w' => e = .returned (.bool r) ∧ Drawn0 w w' := by
 have H : (if a0 ≥ a1 then (some (decide (a0 ≤ a2))) else (some false)) = some r := h
 clear h
 by_cases c4 : a0 ≥ a1
 ·rw [if_pos c4] at H
  have c4b0 : decide (a1 ≤ a0) = true := decide_eq_true c4
  clear c4
  obtain rfl := Option.some.inj H
  go_enter Tryz.func69, Tryz.ntmps69
  go_wp2
  go_ret
  exact ⟨by rfl, by repeat (exact Drawn0.refl _)⟩
 ·rw [if_neg c4] at H
  have c4b0 : decide (a1 ≤ a0) = false := decide_eq_false c4
  clear c4
  obtain rfl := Option.some.inj H
  go_enter Tryz.func69, Tryz.ntmps69
  go_wp2
  go_ret
  exact ⟨by rfl, by repeat (exact Drawn0.refl _)⟩
def q8.l0 : Nat → List (S143) → Int → Int → Int → Int → Int → List Int → List (S143) → Option (Int)
 | 0, _, _, _, _, _, _, _, _ => none
 | k + 1, x11, x12, x13, x262000, x262001, x262002, x262003, x262004 => if x13 < x12 then (if 0 ≤ x13 then (if x13 < (x11.length : Int) then ((qi.f k ((rd_T143 x11 x13).f0)).bind fun t264 => (if t264 = 0 then ((qr.f ((rd_T143 x11 x13).f1) 0 9).bind fun t265 => (if t265 = true then (if x13 > 0 then (if 0 ≤ (wrap64 (x13 - 1)) then (if (wrap64 (x13 - 1)) < (x262004.length : Int) then (if ((Op.bytesLess (((rd_T143 x262004 (wrap64 (x13 - 1))).f0).toList) (((rd_T143 x11 x13).f0).toList)) = true) then (q8.l0 k x11 x12 (wrap64 (x13 + 1)) x262000 x262001 x262002 x262003 x262004) else (some 1)) else (none)) else (none)) else (q8.l0 k x11 x12 (wrap64 (x13 + 1)) x262000 x262001 x262002 x262003 x262004)) else (some 3))) else (some t264))) else (none)) else (none)) else (some 0)
def q8.f (k : Nat) (a0_0 : Int) (a0_1 : Int) (a0_2 : Int) (l0_3 : List Int) (l0_4 : List (S143)) : Option (Int) := if (l0_4.length : Int) > 6 then (some 2) else (q8.l0 k l0_4 (l0_4.length : Int) 0 a0_0 a0_1 a0_2 l0_3 l0_4)
theorem q8.mono_l : ∀ k, (∀ y0 y1 y2 y3 y4 y5 y6 y7, LeO (q8.l0 k y0 y1 y2 y3 y4 y5 y6 y7) (q8.l0 (k + 1) y0 y1 y2 y3 y4 y5 y6 y7))
 | 0 => fun _ _ _ _ _ _ _ _ r h => by simp [q8.l0] at h
 | k + 1 => by
  have ih0 := q8.mono_l k
  ·intro y0 y1 y2 y3 y4 y5 y6 y7
   unfold q8.l0
   repeat' first | (with_reducible exact ih0 _ _ _ _ _ _ _ _) | (with_reducible exact qi.mono _ _) | (with_reducible exact LeO.refl _) | (with_reducible refine LeO.ite ?_ ?_) | (with_reducible refine LeO.bind ?_ (fun _ => ?_))
theorem q8.mono : ∀ a0 a1 a2 a3 a4 k, LeO (q8.f k a0 a1 a2 a3 a4) (q8.f (k + 1) a0 a1 a2 a3 a4) := by
 intro a0 a1 a2 a3 a4 k
 have ih0 := q8.mono_l k
 unfold q8.f
 repeat' first | (with_reducible exact ih0 _ _ _ _ _ _ _ _) | (with_reducible exact LeO.refl _) | (with_reducible refine LeO.ite ?_ ?_)
set_option maxHeartbeats 8000000 in
set_option maxRecDepth 100000 in
theorem q8.calls (k : Nat) (a0_0 : Int) (a0_1 : Int) (a0_2 : Int) (A0_3 : Option Addr) (c0_3 : Nat) (l0_3 : List Int) (A0_4 : Option Addr) (c0_4 : Nat) (l0_4 : List (S143)) (r : Int) (w : World) (hr0_3 : Kd.C (Kd.int .i64) w A0_3 l0_3.length l0_3) (hc0_3 : l0_3.length ≤ c0_3) (hr0_4 : Kd.C k143 w A0_4 l0_4.length l0_4) (hc0_4 : l0_4.length ≤ c0_4) (h : q8.f k a0_0 a0_1 a0_2 l0_3 l0_4 = some r) :
  Calls Tryz.prog 258 #[.agg #[.int .i64 a0_0, .int .i64 a0_1, .int .i64 a0_2, .slice A0_3 l0_3.length c0_3, .slice A0_4 l0_4.length c0_4]] w fun e w' => e = .returned (.int .i64 r) ∧ Below w.heap.size w w' := by
 have hu86 := Tryz.underlying86
 have hu143 := Tryz.underlying143
 have HR0_3 := Am hr0_3
 have HC0_3 := Am hc0_3
 clear hr0_3 hc0_3
 have HR0_4 := Am hr0_4
 have HC0_4 := Am hc0_4
 clear hr0_4 hc0_4
 have HB := Am (Below.refl w.heap.size w)
 have H : (if (l0_4.length : Int) > 6 then (some 2) else (q8.l0 k l0_4 (l0_4.length : Int) 0 a0_0 a0_1 a0_2 l0_3 l0_4)) = some r := h
 clear h
 by_cases c2 : (l0_4.length : Int) > 6
 ·rw [if_pos c2] at H
  have c2b0 : decide (6 < (l0_4.length : Int)) = true := decide_eq_true c2
  have c2b1 : decide (6 < l0_4.length) = true := decide_eq_true (by omega)
  clear c2
  obtain rfl := Option.some.inj H
  go_enter Tryz.func258, Tryz.ntmps258
  go_wp2_with (((with_reducible refine gate_dst (N := 1) rfl ?_); refine box_event ?hg (N := 1) ?hd (cs := #[.int .i64 a0_0, .int .i64 a0_1, .int .i64 a0_2, .slice A0_3 l0_3.length c0_3, .slice A0_4 l0_4.length c0_4]) (t := 86) ?hr ?_; (case hd => rfl); (case hg => rfl); (case hr => (go_simp; done)); intro gb261 hg w3 hbox hb; have BK261 := Am hbox; have GW261 := Am ((nge hg HB.out)); have GE261 := Am ((nge hg HB.out)); replace HB := Am (below_step HB.out hb); clear hb hbox hg; obtain ⟨hcz4_0, hcz4_1, hcz4_2, hcz4_3, hcz4_4, hfz4_0, hfz4_1, hfz4_2, hfz4_3, hfz4_4⟩ := cb5 BK261.out))
  repeat (go_quiet (fail))
  go_ret
  exact ⟨by rfl, HB.out⟩
 ·rw [if_neg c2] at H
  have c2b0 : decide (6 < (l0_4.length : Int)) = false := decide_eq_false c2
  have c2b1 : decide (6 < l0_4.length) = false := decide_eq_false (by omega)
  clear c2
  have H' := Am H
  clear H
  go_enter Tryz.func258, Tryz.ntmps258
  go_wp2_with (((with_reducible refine gate_dst (N := 1) rfl ?_); refine box_event ?hg (N := 1) ?hd (cs := #[.int .i64 a0_0, .int .i64 a0_1, .int .i64 a0_2, .slice A0_3 l0_3.length c0_3, .slice A0_4 l0_4.length c0_4]) (t := 86) ?hr ?_; (case hd => rfl); (case hg => rfl); (case hr => (go_simp; done)); intro gb261 hg w5 hbox hb; have BK261 := Am hbox; have GW261 := Am ((nge hg HB.out)); have GE261 := Am ((nge hg HB.out)); replace HB := Am (below_step HB.out hb); clear hb hbox hg; obtain ⟨hcz6_0, hcz6_1, hcz6_2, hcz6_3, hcz6_4, hfz6_0, hfz6_1, hfz6_2, hfz6_3, hfz6_4⟩ := cb5 BK261.out))
  repeat (go_quiet (fail))
  go_loopg [13] k (fun kq v13 w' => ∃ (x13_1 : Int), v13 = .int .i64 x13_1 ∧ Aside0 (q8.l0 kq l0_4 (l0_4.length : Int) x13_1 a0_0 a0_1 a0_2 l0_3 l0_4 = some r) ∧ Aside0 (kq ≤ k) ∧ Aside0 (w'.heap[gb261]? = some (.cells #[.int .i64 a0_0, .int .i64 a0_1, .int .i64 a0_2, (.slice A0_3 l0_3.length c0_3), (.slice A0_4 l0_4.length c0_4)] 86 (0, 0))) ∧ Aside0 (Below w.heap.size w w'))
  case atStart => exact ⟨(0), (by rfl), H', ⟨Nat.le_refl _⟩, ⟨by exact BK261.out⟩, ⟨HB.out⟩⟩
  case round =>
   clear H'
   try clear c2b0
   try clear c2b1
   try clear hcz6_0
   try clear hcz6_1
   try clear hcz6_2
   try clear hcz6_3
   try clear hcz6_4
   try clear hfz6_0
   try clear hfz6_1
   try clear hfz6_2
   try clear hfz6_3
   try clear hfz6_4
   obtain ⟨x13_1, rfl, HA, HK1, BK261, HB⟩ := hrel
   cases gk with
   | zero => exact absurd HA.out (by simp [q8.l0])
   | succ k1 =>
    have H := HA.out
    clear HA
    simp only [q8.l0] at H
    by_cases c7 : x13_1 < (l0_4.length : Int)
    ·rw [if_pos c7] at H
     have c7b0 : decide (x13_1 < (l0_4.length : Int)) = true := decide_eq_true c7
     clear c7
     replace H := ino H
     obtain ⟨c8, H⟩ := H
     have c8b0 : decide (0 ≤ x13_1) = true := decide_eq_true c8
     clear c8
     replace H := ino H
     obtain ⟨c9, H⟩ := H
     have c9b0 : decide (x13_1 < (l0_4.length : Int)) = true := decide_eq_true c9
     clear c9
     replace H := zbs H
     obtain ⟨t264, A10, H⟩ := H
     by_cases c11 : t264 = 0
     ·rw [if_pos c11] at H
      have c11b0 : (t264 == 0) = true := beq_iff_eq.mpr c11
      have c11b1 : (t264 != 0) = false := bne_eq_false_iff_eq.mpr c11
      clear c11
      replace H := zbs H
      obtain ⟨t265, A12, H⟩ := H
      by_cases c13 : t265 = true
      ·subst c13
       have H1 : (if x13_1 > 0 then (if 0 ≤ (wrap64 (x13_1 - 1)) then (if (wrap64 (x13_1 - 1)) < (l0_4.length : Int) then (if ((Op.bytesLess (((rd_T143 l0_4 (wrap64 (x13_1 - 1))).f0).toList) (((rd_T143 l0_4 x13_1).f0).toList)) = true) then (q8.l0 k1 l0_4 (l0_4.length : Int) (wrap64 (x13_1 + 1)) a0_0 a0_1 a0_2 l0_3 l0_4) else (some 1)) else (none)) else (none)) else (q8.l0 k1 l0_4 (l0_4.length : Int) (wrap64 (x13_1 + 1)) a0_0 a0_1 a0_2 l0_3 l0_4)) = some r := by rw [if_pos rfl] at H; exact H
       clear H
       have H := H1
       clear H1
       by_cases c14 : x13_1 > 0
       ·rw [if_pos c14] at H
        have c14b0 : decide (0 < x13_1) = true := decide_eq_true c14
        clear c14
        obtain ⟨ji15, hji15⟩ : ∃ j_ : Int, (wrap64 (x13_1 - 1)) = j_ := ⟨_, rfl⟩
        replace H : (if 0 ≤ (ji15) then (if (ji15) < (l0_4.length : Int) then (if ((Op.bytesLess (((rd_T143 l0_4 (ji15)).f0).toList) (((rd_T143 l0_4 x13_1).f0).toList)) = true) then (q8.l0 k1 l0_4 (l0_4.length : Int) (wrap64 (x13_1 + 1)) a0_0 a0_1 a0_2 l0_3 l0_4) else (some 1)) else (none)) else (none)) = some r := by (rw [hji15] at H; exact H)
        have hji15w : (IntKind.i64.wrap (x13_1 - 1)) = ji15 := (i64_w _).trans hji15
        replace H := ino H
        obtain ⟨c16, H⟩ := H
        have c16b0 : decide (0 ≤ (ji15)) = true := decide_eq_true c16
        clear c16
        replace H := ino H
        obtain ⟨c17, H⟩ := H
        have c17b0 : decide ((ji15) < (l0_4.length : Int)) = true := decide_eq_true c17
        clear c17
        by_cases c18 : ((Op.bytesLess (((rd_T143 l0_4 (ji15)).f0).toList) (((rd_T143 l0_4 x13_1).f0).toList)) = true)
        ·rw [if_pos c18] at H
         have c18b0 : (Op.bytesLess (((rd_T143 l0_4 (ji15)).f0).toList) (((rd_T143 l0_4 x13_1).f0).toList)) = true := c18
         clear c18
         have H' := Am H
         clear H
         have p262 : 0 ≤ (x13_1 : Int) := od (by assumption)
         have q262 : x13_1 < (l0_4.length : Int) := od (by assumption)
         obtain ⟨ad262, e262, hx262_0, hx262_1⟩ := at_T143 HR0_4.out x13_1 p262 q262
         cases e262
         replace hx262_0 := pcb HB.out hx262_0
         replace hx262_1 := pcb HB.out hx262_1
         replace p262 := eq_true p262
         replace q262 := eq_true q262
         go_wp2_with (first | ((with_reducible refine gate_dst (N := 4) rfl ?_); refine box_event ?hg (N := 4) ?hd (cs := #[.string (⟨#[]⟩ : ByteArray), .int .i64 0]) (t := 143) ?hr ?_; (case hd => rfl); (case hg => rfl); (case hr => (go_simp; done)); intro gb263 hg w19 hbox hb; have BK263 := Am hbox; have GW263 := Am ((nge hg HB.out)); have GE263 := Am ((nge hg HB.out)); replace HB := Am (below_step HB.out hb); have NB261_263 := Am ((nlt hg (g := gb261) (o := .cells #[.int .i64 a0_0, .int .i64 a0_1, .int .i64 a0_2, .slice A0_3 l0_3.length c0_3, .slice (some ad262) l0_4.length c0_4] 86 (0, 0)) BK261.out)); have NB263_261 := Am ((ngt hg (g := gb261) (o := .cells #[.int .i64 a0_0, .int .i64 a0_1, .int .i64 a0_2, .slice A0_3 l0_3.length c0_3, .slice (some ad262) l0_4.length c0_4] 86 (0, 0)) BK261.out)); replace BK261 := Am (blk_below BK261.out hb); clear hb hbox hg; have hnb20 := NB263_261.out; have hnc20 := NB261_263.out; obtain ⟨hcz21_0, hcz21_1, hfz21_0, hfz21_1⟩ := cb2 BK263.out) | (go_at_call 239; (with_reducible refine (qi.calls k1 ((rd_T143 l0_4 x13_1).f0) t264 _ A10.out).mono ?_); rintro e w' ⟨rfl, ⟨nd, rfl⟩⟩) | (go_at_call 69; (with_reducible refine (qr.calls ((rd_T143 l0_4 x13_1).f1) 0 9 true _ A12.out).mono ?_); rintro e w' ⟨rfl, ⟨nd, rfl⟩⟩; obtain ⟨hcz22_0, hcz22_1, hcz22_2, hcz22_3, hcz22_4, hfz22_0, hfz22_1, hfz22_2, hfz22_3, hfz22_4⟩ := cb5 BK261.out; have p266 : 0 ≤ ((ji15) : Int) := od (by assumption); have q266 : (ji15) < (l0_4.length : Int) := od (by assumption); obtain ⟨ad266, e266, hx266_0, hx266_1⟩ := at_T143 HR0_4.out (ji15) p266 q266; obtain rfl : ad262 = ad266 := (by injection e266); have hn266_0 : ad262.block ≠ gb263 := Nat.ne_of_lt (Nat.lt_of_lt_of_le (by have := World.block_lt_of_cell? _ _ hx266_0; rwa [add_block] at this) GW263.out); have hn266_1 : ad262.block ≠ gb263 := Nat.ne_of_lt (Nat.lt_of_lt_of_le (by have := World.block_lt_of_cell? _ _ hx266_0; rwa [add_block] at this) GW263.out); replace hx266_0 := pcb HB.out hx266_0; replace hx266_1 := pcb HB.out hx266_1; replace hx266_0 := (cell_far (p := ⟨gb263, 0, none⟩) (by (rw [add_block]; exact hn266_0)) (.string ((rd_T143 l0_4 x13_1).f0))).trans hx266_0; replace hx266_1 := (cell_far (p := ⟨gb263, 0, none⟩) (by (rw [add_block]; exact hn266_0)) (.string ((rd_T143 l0_4 x13_1).f0))).trans hx266_1; replace hx266_0 := (cell_far (p := ⟨gb263, 1, none⟩) (by (rw [add_block]; exact hn266_1)) (.int .i64 ((rd_T143 l0_4 x13_1).f1))).trans hx266_0; replace hx266_1 := (cell_far (p := ⟨gb263, 1, none⟩) (by (rw [add_block]; exact hn266_1)) (.int .i64 ((rd_T143 l0_4 x13_1).f1))).trans hx266_1; (try have hy266_0 := fun (n_ : Nat) => (show ((((w19.drewN n_).setCell ⟨gb263, 0, none⟩ (.string ((rd_T143 l0_4 x13_1).f0))).setCell ⟨gb263, 1, none⟩ (.int .i64 ((rd_T143 l0_4 x13_1).f1)))).cell? _ = some _ from hx266_0)); (try have hy266_1 := fun (n_ : Nat) => (show ((((w19.drewN n_).setCell ⟨gb263, 0, none⟩ (.string ((rd_T143 l0_4 x13_1).f0))).setCell ⟨gb263, 1, none⟩ (.int .i64 ((rd_T143 l0_4 x13_1).f1)))).cell? _ = some _ from hx266_1)); clear hn266_0; clear hn266_1; replace p266 := eq_true p266; replace q266 := eq_true q266))
         repeat (go_quiet (fail); try go_wp2_with (fail))
         go_roundg k1
         case measure => have := HK1.out; omega
         case rel => exact ⟨(wrap64 (x13_1 + 1)), (by rfl), H', ⟨by have := HK1.out; omega⟩, ⟨by (with_reducible repeat (refine blk_drewN ?_ _)); refine blk_far ?_ NB261_263.out _; refine blk_far ?_ NB261_263.out _; exact BK261.out⟩, ⟨by repeat ((with_reducible first | exact HB.out | apply pw_below_drewN | refine below_set ?_ GE263.out))⟩⟩
        ·rw [if_neg c18] at H
         have c18b0 : (Op.bytesLess (((rd_T143 l0_4 (ji15)).f0).toList) (((rd_T143 l0_4 x13_1).f0).toList)) = false := by simpa using c18
         clear c18
         obtain rfl := Option.some.inj H
         have p262 : 0 ≤ (x13_1 : Int) := od (by assumption)
         have q262 : x13_1 < (l0_4.length : Int) := od (by assumption)
         obtain ⟨ad262, e262, hx262_0, hx262_1⟩ := at_T143 HR0_4.out x13_1 p262 q262
         cases e262
         replace hx262_0 := pcb HB.out hx262_0
         replace hx262_1 := pcb HB.out hx262_1
         replace p262 := eq_true p262
         replace q262 := eq_true q262
         go_wp2_with (first | ((with_reducible refine gate_dst (N := 4) rfl ?_); refine box_event ?hg (N := 4) ?hd (cs := #[.string (⟨#[]⟩ : ByteArray), .int .i64 0]) (t := 143) ?hr ?_; (case hd => rfl); (case hg => rfl); (case hr => (go_simp; done)); intro gb263 hg w23 hbox hb; have BK263 := Am hbox; have GW263 := Am ((nge hg HB.out)); have GE263 := Am ((nge hg HB.out)); replace HB := Am (below_step HB.out hb); have NB261_263 := Am ((nlt hg (g := gb261) (o := .cells #[.int .i64 a0_0, .int .i64 a0_1, .int .i64 a0_2, .slice A0_3 l0_3.length c0_3, .slice (some ad262) l0_4.length c0_4] 86 (0, 0)) BK261.out)); have NB263_261 := Am ((ngt hg (g := gb261) (o := .cells #[.int .i64 a0_0, .int .i64 a0_1, .int .i64 a0_2, .slice A0_3 l0_3.length c0_3, .slice (some ad262) l0_4.length c0_4] 86 (0, 0)) BK261.out)); replace BK261 := Am (blk_below BK261.out hb); clear hb hbox hg; have hnb24 := NB263_261.out; have hnc24 := NB261_263.out; obtain ⟨hcz25_0, hcz25_1, hfz25_0, hfz25_1⟩ := cb2 BK263.out) | (go_at_call 239; (with_reducible refine (qi.calls k1 ((rd_T143 l0_4 x13_1).f0) t264 _ A10.out).mono ?_); rintro e w' ⟨rfl, ⟨nd, rfl⟩⟩) | (go_at_call 69; (with_reducible refine (qr.calls ((rd_T143 l0_4 x13_1).f1) 0 9 true _ A12.out).mono ?_); rintro e w' ⟨rfl, ⟨nd, rfl⟩⟩; obtain ⟨hcz26_0, hcz26_1, hcz26_2, hcz26_3, hcz26_4, hfz26_0, hfz26_1, hfz26_2, hfz26_3, hfz26_4⟩ := cb5 BK261.out; have p266 : 0 ≤ ((ji15) : Int) := od (by assumption); have q266 : (ji15) < (l0_4.length : Int) := od (by assumption); obtain ⟨ad266, e266, hx266_0, hx266_1⟩ := at_T143 HR0_4.out (ji15) p266 q266; obtain rfl : ad262 = ad266 := (by injection e266); have hn266_0 : ad262.block ≠ gb263 := Nat.ne_of_lt (Nat.lt_of_lt_of_le (by have := World.block_lt_of_cell? _ _ hx266_0; rwa [add_block] at this) GW263.out); have hn266_1 : ad262.block ≠ gb263 := Nat.ne_of_lt (Nat.lt_of_lt_of_le (by have := World.block_lt_of_cell? _ _ hx266_0; rwa [add_block] at this) GW263.out); replace hx266_0 := pcb HB.out hx266_0; replace hx266_1 := pcb HB.out hx266_1; replace hx266_0 := (cell_far (p := ⟨gb263, 0, none⟩) (by (rw [add_block]; exact hn266_0)) (.string ((rd_T143 l0_4 x13_1).f0))).trans hx266_0; replace hx266_1 := (cell_far (p := ⟨gb263, 0, none⟩) (by (rw [add_block]; exact hn266_0)) (.string ((rd_T143 l0_4 x13_1).f0))).trans hx266_1; replace hx266_0 := (cell_far (p := ⟨gb263, 1, none⟩) (by (rw [add_block]; exact hn266_1)) (.int .i64 ((rd_T143 l0_4 x13_1).f1))).trans hx266_0; replace hx266_1 := (cell_far (p := ⟨gb263, 1, none⟩) (by (rw [add_block]; exact hn266_1)) (.int .i64 ((rd_T143 l0_4 x13_1).f1))).trans hx266_1; (try have hy266_0 := fun (n_ : Nat) => (show ((((w23.drewN n_).setCell ⟨gb263, 0, none⟩ (.string ((rd_T143 l0_4 x13_1).f0))).setCell ⟨gb263, 1, none⟩ (.int .i64 ((rd_T143 l0_4 x13_1).f1)))).cell? _ = some _ from hx266_0)); (try have hy266_1 := fun (n_ : Nat) => (show ((((w23.drewN n_).setCell ⟨gb263, 0, none⟩ (.string ((rd_T143 l0_4 x13_1).f0))).setCell ⟨gb263, 1, none⟩ (.int .i64 ((rd_T143 l0_4 x13_1).f1)))).cell? _ = some _ from hx266_1)); clear hn266_0; clear hn266_1; replace p266 := eq_true p266; replace q266 := eq_true q266))
         repeat (go_quiet (fail); try go_wp2_with (fail))
         go_ret
         exact ⟨by rfl, by repeat ((with_reducible first | exact HB.out | apply pw_below_drewN | refine below_set ?_ GE263.out))⟩
       ·rw [if_neg c14] at H
        have c14b0 : decide (0 < x13_1) = false := decide_eq_false c14
        clear c14
        have H' := Am H
        clear H
        have p262 : 0 ≤ (x13_1 : Int) := od (by assumption)
        have q262 : x13_1 < (l0_4.length : Int) := od (by assumption)
        obtain ⟨ad262, e262, hx262_0, hx262_1⟩ := at_T143 HR0_4.out x13_1 p262 q262
        cases e262
        replace hx262_0 := pcb HB.out hx262_0
        replace hx262_1 := pcb HB.out hx262_1
        replace p262 := eq_true p262
        replace q262 := eq_true q262
        go_wp2_with (first | ((with_reducible refine gate_dst (N := 4) rfl ?_); refine box_event ?hg (N := 4) ?hd (cs := #[.string (⟨#[]⟩ : ByteArray), .int .i64 0]) (t := 143) ?hr ?_; (case hd => rfl); (case hg => rfl); (case hr => (go_simp; done)); intro gb263 hg w27 hbox hb; have BK263 := Am hbox; have GW263 := Am ((nge hg HB.out)); have GE263 := Am ((nge hg HB.out)); replace HB := Am (below_step HB.out hb); have NB261_263 := Am ((nlt hg (g := gb261) (o := .cells #[.int .i64 a0_0, .int .i64 a0_1, .int .i64 a0_2, .slice A0_3 l0_3.length c0_3, .slice (some ad262) l0_4.length c0_4] 86 (0, 0)) BK261.out)); have NB263_261 := Am ((ngt hg (g := gb261) (o := .cells #[.int .i64 a0_0, .int .i64 a0_1, .int .i64 a0_2, .slice A0_3 l0_3.length c0_3, .slice (some ad262) l0_4.length c0_4] 86 (0, 0)) BK261.out)); replace BK261 := Am (blk_below BK261.out hb); clear hb hbox hg; have hnb28 := NB263_261.out; have hnc28 := NB261_263.out; obtain ⟨hcz29_0, hcz29_1, hfz29_0, hfz29_1⟩ := cb2 BK263.out) | (go_at_call 239; (with_reducible refine (qi.calls k1 ((rd_T143 l0_4 x13_1).f0) t264 _ A10.out).mono ?_); rintro e w' ⟨rfl, ⟨nd, rfl⟩⟩) | (go_at_call 69; (with_reducible refine (qr.calls ((rd_T143 l0_4 x13_1).f1) 0 9 true _ A12.out).mono ?_); rintro e w' ⟨rfl, ⟨nd, rfl⟩⟩))
        repeat (go_quiet (fail); try go_wp2_with (fail))
        go_roundg k1
        case measure => have := HK1.out; omega
        case rel => exact ⟨(wrap64 (x13_1 + 1)), (by rfl), H', ⟨by have := HK1.out; omega⟩, ⟨by (with_reducible repeat (refine blk_drewN ?_ _)); refine blk_far ?_ NB261_263.out _; refine blk_far ?_ NB261_263.out _; exact BK261.out⟩, ⟨by repeat ((with_reducible first | exact HB.out | apply pw_below_drewN | refine below_set ?_ GE263.out))⟩⟩
      ·replace c13 := Bool.eq_false_iff.mpr c13
       subst c13
       have H1 : (some 3) = some r := by rw [if_neg (show ¬ (false = true) by decide)] at H; exact H
       clear H
       have H := H1
       clear H1
       obtain rfl := Option.some.inj H
       have p262 : 0 ≤ (x13_1 : Int) := od (by assumption)
       have q262 : x13_1 < (l0_4.length : Int) := od (by assumption)
       obtain ⟨ad262, e262, hx262_0, hx262_1⟩ := at_T143 HR0_4.out x13_1 p262 q262
       cases e262
       replace hx262_0 := pcb HB.out hx262_0
       replace hx262_1 := pcb HB.out hx262_1
       replace p262 := eq_true p262
       replace q262 := eq_true q262
       go_wp2_with (first | ((with_reducible refine gate_dst (N := 4) rfl ?_); refine box_event ?hg (N := 4) ?hd (cs := #[.string (⟨#[]⟩ : ByteArray), .int .i64 0]) (t := 143) ?hr ?_; (case hd => rfl); (case hg => rfl); (case hr => (go_simp; done)); intro gb263 hg w30 hbox hb; have BK263 := Am hbox; have GW263 := Am ((nge hg HB.out)); have GE263 := Am ((nge hg HB.out)); replace HB := Am (below_step HB.out hb); have NB261_263 := Am ((nlt hg (g := gb261) (o := .cells #[.int .i64 a0_0, .int .i64 a0_1, .int .i64 a0_2, .slice A0_3 l0_3.length c0_3, .slice (some ad262) l0_4.length c0_4] 86 (0, 0)) BK261.out)); have NB263_261 := Am ((ngt hg (g := gb261) (o := .cells #[.int .i64 a0_0, .int .i64 a0_1, .int .i64 a0_2, .slice A0_3 l0_3.length c0_3, .slice (some ad262) l0_4.length c0_4] 86 (0, 0)) BK261.out)); replace BK261 := Am (blk_below BK261.out hb); clear hb hbox hg; have hnb31 := NB263_261.out; have hnc31 := NB261_263.out; obtain ⟨hcz32_0, hcz32_1, hfz32_0, hfz32_1⟩ := cb2 BK263.out) | (go_at_call 239; (with_reducible refine (qi.calls k1 ((rd_T143 l0_4 x13_1).f0) t264 _ A10.out).mono ?_); rintro e w' ⟨rfl, ⟨nd, rfl⟩⟩) | (go_at_call 69; (with_reducible refine (qr.calls ((rd_T143 l0_4 x13_1).f1) 0 9 false _ A12.out).mono ?_); rintro e w' ⟨rfl, ⟨nd, rfl⟩⟩))
       repeat (go_quiet (fail))
       go_ret
       exact ⟨by rfl, by repeat ((with_reducible first | exact HB.out | apply pw_below_drewN | refine below_set ?_ GE263.out))⟩
     ·rw [if_neg c11] at H
      have c11b0 : (t264 == 0) = false := beq_eq_false_iff_ne.mpr c11
      have c11b1 : (t264 != 0) = true := bne_iff_ne.mpr c11
      obtain rfl := Option.some.inj H
      have p262 : 0 ≤ (x13_1 : Int) := od (by assumption)
      have q262 : x13_1 < (l0_4.length : Int) := od (by assumption)
      obtain ⟨ad262, e262, hx262_0, hx262_1⟩ := at_T143 HR0_4.out x13_1 p262 q262
      cases e262
      replace hx262_0 := pcb HB.out hx262_0
      replace hx262_1 := pcb HB.out hx262_1
      replace p262 := eq_true p262
      replace q262 := eq_true q262
      go_wp2_with (first | ((with_reducible refine gate_dst (N := 4) rfl ?_); refine box_event ?hg (N := 4) ?hd (cs := #[.string (⟨#[]⟩ : ByteArray), .int .i64 0]) (t := 143) ?hr ?_; (case hd => rfl); (case hg => rfl); (case hr => (go_simp; done)); intro gb263 hg w33 hbox hb; have BK263 := Am hbox; have GW263 := Am ((nge hg HB.out)); have GE263 := Am ((nge hg HB.out)); replace HB := Am (below_step HB.out hb); have NB261_263 := Am ((nlt hg (g := gb261) (o := .cells #[.int .i64 a0_0, .int .i64 a0_1, .int .i64 a0_2, .slice A0_3 l0_3.length c0_3, .slice (some ad262) l0_4.length c0_4] 86 (0, 0)) BK261.out)); have NB263_261 := Am ((ngt hg (g := gb261) (o := .cells #[.int .i64 a0_0, .int .i64 a0_1, .int .i64 a0_2, .slice A0_3 l0_3.length c0_3, .slice (some ad262) l0_4.length c0_4] 86 (0, 0)) BK261.out)); replace BK261 := Am (blk_below BK261.out hb); clear hb hbox hg; have hnb34 := NB263_261.out; have hnc34 := NB261_263.out; obtain ⟨hcz35_0, hcz35_1, hfz35_0, hfz35_1⟩ := cb2 BK263.out) | (go_at_call 239; (with_reducible refine (qi.calls k1 ((rd_T143 l0_4 x13_1).f0) t264 _ A10.out).mono ?_); rintro e w' ⟨rfl, ⟨nd, rfl⟩⟩))
      repeat (go_quiet (fail))
      go_ret
      exact ⟨by rfl, by repeat ((with_reducible first | exact HB.out | apply pw_below_drewN | refine below_set ?_ GE263.out))⟩
    ·rw [if_neg c7] at H
     have c7b0 : decide (x13_1 < (l0_4.length : Int)) = false := decide_eq_false c7
     clear c7
     obtain rfl := Option.some.inj H
     go_wp2
     repeat (go_quiet (fail))
     go_ret
     exact ⟨by rfl, HB.out⟩
def q6.f (a0 : Int) : Option (Int) := some (wrap64 (Int.tdiv (wrap64 ((wrap64 (a0 + 8)) - 1)) 8))
set_option maxHeartbeats 8000000 in
set_option maxRecDepth 100000 in
theorem q6.calls (a0 : Int) (r : Int) (w : World) (h : q6.f a0 = some r) :
  Calls Tryz.prog 264 #[.int .i64 a0] w fun e w' => e = .returned (.int .i64 r) ∧ Drawn0 w w' := by
 have H : (some (wrap64 (Int.tdiv (wrap64 ((wrap64 (a0 + 8)) - 1)) 8))) = some r := h
 clear h
 obtain rfl := Option.some.inj H
 go_enter Tryz.func264, Tryz.ntmps264
 go_wp2
 go_ret
 exact ⟨by rfl, by repeat (exact Drawn0.refl _)⟩
def qm.f (l0 : List Int) : Option (Int) := some (l0.length : Int)
set_option maxHeartbeats 8000000 in
set_option maxRecDepth 100000 in
theorem qm.calls (A0 : Option Addr) (c0 : Nat) (l0 : List Int) (r : Int) (w : World) (hr0 : Kd.C (Kd.int .i64) w A0 l0.length l0) (hc0 : l0.length ≤ c0) (h : qm.f l0 = some r) :
  Calls Tryz.prog 53 #[.slice A0 l0.length c0] w fun e w' => e = .returned (.int .i64 r) ∧ Drawn0 w w' := by
 have HR0 := Am hr0
 have HC0 := Am hc0
 clear hr0 hc0
 have H : (some (l0.length : Int)) = some r := h
 clear h
 obtain rfl := Option.some.inj H
 go_enter Tryz.func53, Tryz.ntmps53
 go_wp2
 go_ret
 exact ⟨by rfl, by repeat (exact Drawn0.refl _)⟩
def qa.f (a0 : Int) : Option (Bool) := (qr.f a0 0 19).bind fun t110 => (some (!t110))
set_option maxHeartbeats 8000000 in
set_option maxRecDepth 100000 in
theorem qa.calls (a0 : Int) (r : Bool) (w : World) (h : qa.f a0 = some r) :
  Calls Tryz.prog 289 #[.int .i64 a0] w fun e w' => e = .returned (.bool r) ∧ Drawn0 w w' := by
 have H : ((qr.f a0 0 19).bind fun t110 => (some (!t110))) = some r := h
 clear h
 replace H := zbs H
 obtain ⟨t110, A2, H⟩ := H
 obtain rfl := Option.some.inj H
 go_enter Tryz.func289, Tryz.ntmps289
 go_wp2_with (((with_reducible refine gate_callee (f := 69) rfl ?_); refine goesL_ (some 4) rfl rfl Tryz.func69 (by kernel_rfl) rfl #[.int .i64 a0, .int .i64 0, .int .i64 19] rfl (by (try simp only [List.map_toArray, List.map_cons, List.map_nil]); rfl) ?_; (with_reducible refine (qr.calls a0 0 19 t110 _ A2.out).mono ?_); rintro e w' ⟨rfl, ⟨nd, rfl⟩⟩; refine ⟨_, rfl, ?_⟩))
 go_ret
 exact ⟨by rfl, by repeat (first | exact Drawn0.refl _ | apply Drawn0.step)⟩
def q1n.l0 : Nat → List Int → Int → Int → Option (Int)
 | 0, _, _, _ => none
 | k + 1, x0, x7, x8 => if x8 < x7 then (if 0 ≤ x8 then (if x8 < (x0.length : Int) then ((qa.f (rd x0 x8)).bind fun t250 => (if t250 = true then (some x8) else (q1n.l0 k x0 x7 (wrap64 (x8 + 1))))) else (none)) else (none)) else (some (-1))
def q1n.f (k : Nat) (l0 : List Int)  : Option (Int) := q1n.l0 k l0 (l0.length : Int) 0
theorem q1n.mono_l : ∀ k, (∀ y0 y1 y2, LeO (q1n.l0 k y0 y1 y2) (q1n.l0 (k + 1) y0 y1 y2))
 | 0 => fun _ _ _ r h => by simp [q1n.l0] at h
 | k + 1 => by
  have ih0 := q1n.mono_l k
  ·intro y0 y1 y2
   unfold q1n.l0
   repeat' first | (with_reducible exact ih0 _ _ _) | (with_reducible exact LeO.refl _) | (with_reducible refine LeO.ite ?_ ?_) | (with_reducible refine LeO.bind ?_ (fun _ => ?_))
theorem q1n.mono : ∀ a0 k, LeO (q1n.f k a0) (q1n.f (k + 1) a0) := by
 intro a0 k
 have ih0 := q1n.mono_l k
 unfold q1n.f
 repeat' (with_reducible exact ih0 _ _ _)
set_option maxHeartbeats 8000000 in
set_option maxRecDepth 100000 in
theorem q1n.calls (k : Nat) (A0 : Option Addr) (c0 : Nat) (l0 : List Int)  (r : Int) (w : World) (hr0 : Kd.C (Kd.int .i64) w A0 l0.length l0) (hc0 : l0.length ≤ c0) (h : q1n.f k l0 = some r) :
  Calls Tryz.prog 178 #[.slice A0 l0.length c0, .func (.func 289) #[] #[]] w fun e w' => e = .returned (.int .i64 r) ∧ Drawn0 w w' := by
 have HR0 := Am hr0
 have HC0 := Am hc0
 clear hr0 hc0
 have H : (q1n.l0 k l0 (l0.length : Int) 0) = some r := h
 clear h
 have H' := Am H
 clear H
 go_enter Tryz.func178, Tryz.ntmps178
 go_wp2
 go_loopg [8] k (fun kq v8 w' => ∃ (x8_1 : Int), v8 = .int .i64 x8_1 ∧ Aside0 (q1n.l0 kq l0 (l0.length : Int) x8_1 = some r) ∧ Aside0 (kq ≤ k) ∧ Drawn0 w w')
 case atStart => exact ⟨(0), (by rfl), H', ⟨Nat.le_refl _⟩, by repeat (exact Drawn0.refl _)⟩
 case round =>
  clear H'
  obtain ⟨x8_1, rfl, HA, HK1, ⟨m1, rfl⟩⟩ := hrel
  cases gk with
  | zero => exact absurd HA.out (by simp [q1n.l0])
  | succ k1 =>
   have H := HA.out
   clear HA
   simp only [q1n.l0] at H
   by_cases c3 : x8_1 < (l0.length : Int)
   ·rw [if_pos c3] at H
    have c3b0 : decide (x8_1 < (l0.length : Int)) = true := decide_eq_true c3
    clear c3
    replace H := ino H
    obtain ⟨c4, H⟩ := H
    have c4b0 : decide (0 ≤ x8_1) = true := decide_eq_true c4
    clear c4
    replace H := ino H
    obtain ⟨c5, H⟩ := H
    have c5b0 : decide (x8_1 < (l0.length : Int)) = true := decide_eq_true c5
    clear c5
    replace H := zbs H
    obtain ⟨t250, A6, H⟩ := H
    by_cases c7 : t250 = true
    ·subst c7
     have H1 : (some x8_1) = some r := by rw [if_pos rfl] at H; exact H
     clear H
     have H := H1
     clear H1
     obtain rfl := Option.some.inj H
     have p249 : 0 ≤ (x8_1 : Int) := od (by assumption)
     have q249 : x8_1 < (l0.length : Int) := od (by assumption)
     obtain ⟨ad249, e249, hx249_0⟩ := Kd.at_int HR0.out x8_1 p249 q249
     cases e249
     replace p249 := eq_true p249
     replace q249 := eq_true q249
     go_wp2_with (((with_reducible refine gate_calleeT rfl ?_); refine goesT_ (some 16) rfl rfl Tryz.func289 (by kernel_rfl) rfl #[.int .i64 (rd l0 x8_1)] rfl (by (try simp only [List.map_toArray, List.map_cons, List.map_nil]); rfl) ?_; (with_reducible refine (qa.calls (rd l0 x8_1) true _ A6.out).mono ?_); rintro e w' ⟨rfl, ⟨nd, rfl⟩⟩; refine ⟨_, rfl, ?_⟩))
     go_ret
     exact ⟨by rfl, by repeat (first | exact Drawn0.refl _ | apply Drawn0.step)⟩
    ·replace c7 := Bool.eq_false_iff.mpr c7
     subst c7
     have H1 : (q1n.l0 k1 l0 (l0.length : Int) (wrap64 (x8_1 + 1))) = some r := by rw [if_neg (show ¬ (false = true) by decide)] at H; exact H
     clear H
     have H := H1
     clear H1
     have H' := Am H
     clear H
     have p249 : 0 ≤ (x8_1 : Int) := od (by assumption)
     have q249 : x8_1 < (l0.length : Int) := od (by assumption)
     obtain ⟨ad249, e249, hx249_0⟩ := Kd.at_int HR0.out x8_1 p249 q249
     cases e249
     replace p249 := eq_true p249
     replace q249 := eq_true q249
     go_wp2_with (((with_reducible refine gate_calleeT rfl ?_); refine goesT_ (some 16) rfl rfl Tryz.func289 (by kernel_rfl) rfl #[.int .i64 (rd l0 x8_1)] rfl (by (try simp only [List.map_toArray, List.map_cons, List.map_nil]); rfl) ?_; (with_reducible refine (qa.calls (rd l0 x8_1) false _ A6.out).mono ?_); rintro e w' ⟨rfl, ⟨nd, rfl⟩⟩; refine ⟨_, rfl, ?_⟩))
     go_roundg k1
     case measure => have := HK1.out; omega
     case rel => exact ⟨(wrap64 (x8_1 + 1)), (by rfl), H', ⟨by have := HK1.out; omega⟩, by repeat (first | exact Drawn0.refl _ | apply Drawn0.step)⟩
   ·rw [if_neg c3] at H
    have c3b0 : decide (x8_1 < (l0.length : Int)) = false := decide_eq_false c3
    clear c3
    obtain rfl := Option.some.inj H
    go_wp2
    go_ret
    exact ⟨by rfl, by repeat (first | exact Drawn0.refl _ | apply Drawn0.step)⟩
def q1k.f (k : Nat) (l0 : List Int)  : Option (Bool) := (q1n.f k l0).bind fun t251 => (some (decide (t251 ≥ 0)))
theorem q1k.mono : ∀ a0 k, LeO (q1k.f k a0) (q1k.f (k + 1) a0) := by
 intro a0 k
 unfold q1k.f
 repeat' first | (with_reducible exact q1n.mono _ _) | (with_reducible exact LeO.refl _) | (with_reducible refine LeO.bind ?_ (fun _ => ?_))
set_option maxHeartbeats 8000000 in
set_option maxRecDepth 100000 in
theorem q1k.calls (k : Nat) (A0 : Option Addr) (c0 : Nat) (l0 : List Int)  (r : Bool) (w : World) (hr0 : Kd.C (Kd.int .i64) w A0 l0.length l0) (hc0 : l0.length ≤ c0) (h : q1k.f k l0 = some r) :
  Calls Tryz.prog 107 #[.slice A0 l0.length c0, .func (.func 289) #[] #[]] w fun e w' => e = .returned (.bool r) ∧ Drawn0 w w' := by
 have HR0 := Am hr0
 have HC0 := Am hc0
 clear hr0 hc0
 have H : ((q1n.f k l0).bind fun t251 => (some (decide (t251 ≥ 0)))) = some r := h
 clear h
 replace H := zbs H
 obtain ⟨t251, A3, H⟩ := H
 obtain rfl := Option.some.inj H
 go_enter Tryz.func107, Tryz.ntmps107
 go_wp2_with (((with_reducible refine gate_callee (f := 178) rfl ?_); refine goesL_ (some 7) rfl rfl Tryz.func178 (by kernel_rfl) rfl #[.slice A0 l0.length c0, .func (.func 289) #[] #[]] rfl (by (try simp only [List.map_toArray, List.map_cons, List.map_nil]); rfl) ?_; (with_reducible refine (q1n.calls k _ _ l0 t251 _ ?side1 ?side2 A3.out).mono ?_); (case side1 => repeat (exact HR0.out)); (case side2 => exact HC0.out); rintro e w' ⟨rfl, ⟨nd, rfl⟩⟩; refine ⟨_, rfl, ?_⟩))
 go_ret
 exact ⟨by rfl, by repeat (first | exact Drawn0.refl _ | apply Drawn0.step)⟩
def q1o.l0 : Nat → List Int → Int → Int → Int → Option (Int)
 | 0, _, _, _, _ => none
 | k + 1, x0, x1, x7, x8 => if x8 < x7 then (if 0 ≤ x8 then (if x8 < (x0.length : Int) then (if x1 = (rd x0 x8) then (some x8) else (q1o.l0 k x0 x1 x7 (wrap64 (x8 + 1)))) else (none)) else (none)) else (some (-1))
def q1o.f (k : Nat) (l0 : List Int) (a1 : Int) : Option (Int) := q1o.l0 k l0 a1 (l0.length : Int) 0
theorem q1o.mono_l : ∀ k, (∀ y0 y1 y2 y3, LeO (q1o.l0 k y0 y1 y2 y3) (q1o.l0 (k + 1) y0 y1 y2 y3))
 | 0 => fun _ _ _ _ r h => by simp [q1o.l0] at h
 | k + 1 => by
  have ih0 := q1o.mono_l k
  ·intro y0 y1 y2 y3
   unfold q1o.l0
   repeat' first | (with_reducible exact ih0 _ _ _ _) | (with_reducible exact LeO.refl _) | (with_reducible refine LeO.ite ?_ ?_)
theorem q1o.mono : ∀ a0 a1 k, LeO (q1o.f k a0 a1) (q1o.f (k + 1) a0 a1) := by
 intro a0 a1 k
 have ih0 := q1o.mono_l k
 unfold q1o.f
 repeat' (with_reducible exact ih0 _ _ _ _)
set_option maxHeartbeats 8000000 in
set_option maxRecDepth 100000 in
theorem q1o.calls (k : Nat) (A0 : Option Addr) (c0 : Nat) (l0 : List Int) (a1 : Int) (r : Int) (w : World) (hr0 : Kd.C (Kd.int .i64) w A0 l0.length l0) (hc0 : l0.length ≤ c0) (h : q1o.f k l0 a1 = some r) :
  Calls Tryz.prog 135 #[.slice A0 l0.length c0, .int .i64 a1] w fun e w' => e = .returned (.int .i64 r) ∧ Drawn0 w w' := by
 have HR0 := Am hr0
 have HC0 := Am hc0
 clear hr0 hc0
 have H : (q1o.l0 k l0 a1 (l0.length : Int) 0) = some r := h
 clear h
 have H' := Am H
 clear H
 go_enter Tryz.func135, Tryz.ntmps135
 go_wp2
 go_loopg [8] k (fun kq v8 w' => ∃ (x8_1 : Int), v8 = .int .i64 x8_1 ∧ Aside0 (q1o.l0 kq l0 a1 (l0.length : Int) x8_1 = some r) ∧ Aside0 (kq ≤ k) ∧ Drawn0 w w')
 case atStart => exact ⟨(0), (by rfl), H', ⟨Nat.le_refl _⟩, by repeat (exact Drawn0.refl _)⟩
 case round =>
  clear H'
  obtain ⟨x8_1, rfl, HA, HK1, ⟨m1, rfl⟩⟩ := hrel
  cases gk with
  | zero => exact absurd HA.out (by simp [q1o.l0])
  | succ k1 =>
   have H := HA.out
   clear HA
   simp only [q1o.l0] at H
   by_cases c3 : x8_1 < (l0.length : Int)
   ·rw [if_pos c3] at H
    have c3b0 : decide (x8_1 < (l0.length : Int)) = true := decide_eq_true c3
    clear c3
    replace H := ino H
    obtain ⟨c4, H⟩ := H
    have c4b0 : decide (0 ≤ x8_1) = true := decide_eq_true c4
    clear c4
    replace H := ino H
    obtain ⟨c5, H⟩ := H
    have c5b0 : decide (x8_1 < (l0.length : Int)) = true := decide_eq_true c5
    clear c5
    by_cases c6 : a1 = (rd l0 x8_1)
    ·rw [if_pos c6] at H
     have c6b0 : (a1 == (rd l0 x8_1)) = true := beq_iff_eq.mpr c6
     have c6b1 : (a1 != (rd l0 x8_1)) = false := bne_eq_false_iff_eq.mpr c6
     clear c6
     obtain rfl := Option.some.inj H
     have p242 : 0 ≤ (x8_1 : Int) := od (by assumption)
     have q242 : x8_1 < (l0.length : Int) := od (by assumption)
     obtain ⟨ad242, e242, hx242_0⟩ := Kd.at_int HR0.out x8_1 p242 q242
     cases e242
     replace p242 := eq_true p242
     replace q242 := eq_true q242
     go_wp2
     go_ret
     exact ⟨by rfl, by repeat (first | exact Drawn0.refl _ | apply Drawn0.step)⟩
    ·rw [if_neg c6] at H
     have c6b0 : (a1 == (rd l0 x8_1)) = false := beq_eq_false_iff_ne.mpr c6
     have c6b1 : (a1 != (rd l0 x8_1)) = true := bne_iff_ne.mpr c6
     have H' := Am H
     clear H
     have p242 : 0 ≤ (x8_1 : Int) := od (by assumption)
     have q242 : x8_1 < (l0.length : Int) := od (by assumption)
     obtain ⟨ad242, e242, hx242_0⟩ := Kd.at_int HR0.out x8_1 p242 q242
     cases e242
     replace p242 := eq_true p242
     replace q242 := eq_true q242
     go_wp2
     go_roundg k1
     case measure => have := HK1.out; omega
     case rel => exact ⟨(wrap64 (x8_1 + 1)), (by rfl), H', ⟨by have := HK1.out; omega⟩, by repeat (first | exact Drawn0.refl _ | apply Drawn0.step)⟩
   ·rw [if_neg c3] at H
    have c3b0 : decide (x8_1 < (l0.length : Int)) = false := decide_eq_false c3
    clear c3
    obtain rfl := Option.some.inj H
    go_wp2
    go_ret
    exact ⟨by rfl, by repeat (first | exact Drawn0.refl _ | apply Drawn0.step)⟩
def q1l.f (k : Nat) (l0 : List Int) (a1 : Int) : Option (Bool) := (q1o.f k l0 a1).bind fun t243 => (some (decide (t243 ≥ 0)))
theorem q1l.mono : ∀ a0 a1 k, LeO (q1l.f k a0 a1) (q1l.f (k + 1) a0 a1) := by
 intro a0 a1 k
 unfold q1l.f
 repeat' first | (with_reducible exact q1o.mono _ _ _) | (with_reducible exact LeO.refl _) | (with_reducible refine LeO.bind ?_ (fun _ => ?_))
set_option maxHeartbeats 8000000 in
set_option maxRecDepth 100000 in
theorem q1l.calls (k : Nat) (A0 : Option Addr) (c0 : Nat) (l0 : List Int) (a1 : Int) (r : Bool) (w : World) (hr0 : Kd.C (Kd.int .i64) w A0 l0.length l0) (hc0 : l0.length ≤ c0) (h : q1l.f k l0 a1 = some r) :
  Calls Tryz.prog 70 #[.slice A0 l0.length c0, .int .i64 a1] w fun e w' => e = .returned (.bool r) ∧ Drawn0 w w' := by
 have HR0 := Am hr0
 have HC0 := Am hc0
 clear hr0 hc0
 have H : ((q1o.f k l0 a1).bind fun t243 => (some (decide (t243 ≥ 0)))) = some r := h
 clear h
 replace H := zbs H
 obtain ⟨t243, A3, H⟩ := H
 obtain rfl := Option.some.inj H
 go_enter Tryz.func70, Tryz.ntmps70
 go_wp2_with (((with_reducible refine gate_callee (f := 135) rfl ?_); refine goesL_ (some 7) rfl rfl Tryz.func135 (by kernel_rfl) rfl #[.slice A0 l0.length c0, .int .i64 a1] rfl (by (try simp only [List.map_toArray, List.map_cons, List.map_nil]); rfl) ?_; (with_reducible refine (q1o.calls k _ _ l0 a1 t243 _ ?side1 ?side2 A3.out).mono ?_); (case side1 => repeat (exact HR0.out)); (case side2 => exact HC0.out); rintro e w' ⟨rfl, ⟨nd, rfl⟩⟩; refine ⟨_, rfl, ?_⟩))
 go_ret
 exact ⟨by rfl, by repeat (first | exact Drawn0.refl _ | apply Drawn0.step)⟩
end Go.Proofs.YtafhjhdohclchaaGreatDoor.G
namespace Go.Proofs.YtafhjhdohclchaaGreatDoor.G
open Go.RowKit Go.Proofs.YtafhjhdohclchaaGreatDoorW.PrintWords Go.Proofs.YtafhjhdohclchaaGreatDoorW.PrintLast Go.Proofs.YtafhjhdohclchaaGreatDoorW.PrintMore
attribute [local go_sem] min2_int min_two
attribute [local go_sem high] str_leq
attribute [local go_sem] binOp_string_geq
mutual
def q9.j0 : Nat → Bool → Int → Int → Int → List Int → List (S143) → Option (Int)
 | 0, _, _, _, _, _, _ => none
 | k + 1, x5, x253000, x253001, x253002, x253003, x253004 => if x5 = true then (some 3) else ((qm.f x253003).bind fun t255 => ((q6.f x253002).bind fun t256 => (if t255 = t256 then ((q1k.f k x253003).bind fun t257 => (if t257 = true then (some 3) else (q9.l0 k x253003 (x253003.length : Int) 0 x253000 x253001 x253002 x253003 x253004))) else (some 1))))
def q9.l0 : Nat → List Int → Int → Int → Int → Int → Int → List Int → List (S143) → Option (Int)
 | 0, _, _, _, _, _, _, _, _ => none
 | k + 1, x29, x30, x31, x253000, x253001, x253002, x253003, x253004 => if x31 < x30 then (if 0 ≤ x31 then (if x31 < (x29.length : Int) then (if x31 ≤ (x253003.length : Int) then ((q1l.f k (x253003.take (x31 : Int).toNat) (rd x29 x31)).bind fun t260 => (if t260 = true then (some 7) else (q9.l0 k x29 x30 (wrap64 (x31 + 1)) x253000 x253001 x253002 x253003 x253004))) else (none)) else (none)) else (none)) else (some 0)
end
def q9.f (k : Nat) (a0_0 : Int) (a0_1 : Int) (a0_2 : Int) (l0_3 : List Int) (l0_4 : List (S143)) : Option (Int) := (qr.f a0_1 1 60).bind fun t253 => (if t253 = true then ((qr.f a0_2 0 32).bind fun t254 => (q9.j0 k (!t254) a0_0 a0_1 a0_2 l0_3 l0_4)) else (q9.j0 k true a0_0 a0_1 a0_2 l0_3 l0_4))
theorem q9.mono_l : ∀ k, (∀ y0 y1 y2 y3 y4 y5, LeO (q9.j0 k y0 y1 y2 y3 y4 y5) (q9.j0 (k + 1) y0 y1 y2 y3 y4 y5)) ∧ (∀ y0 y1 y2 y3 y4 y5 y6 y7, LeO (q9.l0 k y0 y1 y2 y3 y4 y5 y6 y7) (q9.l0 (k + 1) y0 y1 y2 y3 y4 y5 y6 y7))
 | 0 => ⟨fun _ _ _ _ _ _ r h => by simp [q9.j0] at h, fun _ _ _ _ _ _ _ _ r h => by simp [q9.l0] at h⟩
 | k + 1 => by
  obtain ⟨ih0, ih1⟩ := q9.mono_l k
  refine ⟨?_, ?_⟩
  ·intro y0 y1 y2 y3 y4 y5
   unfold q9.j0
   repeat' first | (with_reducible exact ih1 _ _ _ _ _ _ _ _) | (with_reducible exact q1k.mono _ _) | (with_reducible exact LeO.refl _) | (with_reducible refine LeO.ite ?_ ?_) | (with_reducible refine LeO.bind ?_ (fun _ => ?_))
  ·intro y0 y1 y2 y3 y4 y5 y6 y7
   unfold q9.l0
   repeat' first | (with_reducible exact ih1 _ _ _ _ _ _ _ _) | (with_reducible exact q1l.mono _ _ _) | (with_reducible exact LeO.refl _) | (with_reducible refine LeO.ite ?_ ?_) | (with_reducible refine LeO.bind ?_ (fun _ => ?_))
theorem q9.mono : ∀ a0 a1 a2 a3 a4 k, LeO (q9.f k a0 a1 a2 a3 a4) (q9.f (k + 1) a0 a1 a2 a3 a4) := by
 intro a0 a1 a2 a3 a4 k
 obtain ⟨ih0, ih1⟩ := q9.mono_l k
 unfold q9.f
 repeat' first | (with_reducible exact ih0 _ _ _ _ _ _) | (with_reducible exact LeO.refl _) | (with_reducible refine LeO.ite ?_ ?_) | (with_reducible refine LeO.bind ?_ (fun _ => ?_))
set_option maxHeartbeats 8000000 in
set_option maxRecDepth 100000 in
theorem q9.calls (k : Nat) (a0_0 : Int) (a0_1 : Int) (a0_2 : Int) (A0_3 : Option Addr) (c0_3 : Nat) (l0_3 : List Int) (A0_4 : Option Addr) (c0_4 : Nat) (l0_4 : List (S143)) (r : Int) (w : World) (hr0_3 : Kd.C (Kd.int .i64) w A0_3 l0_3.length l0_3) (hc0_3 : l0_3.length ≤ c0_3) (hr0_4 : Kd.C k143 w A0_4 l0_4.length l0_4) (hc0_4 : l0_4.length ≤ c0_4) (h : q9.f k a0_0 a0_1 a0_2 l0_3 l0_4 = some r) :
  Calls Tryz.prog 257 #[.agg #[.int .i64 a0_0, .int .i64 a0_1, .int .i64 a0_2, .slice A0_3 l0_3.length c0_3, .slice A0_4 l0_4.length c0_4]] w fun e w' => e = .returned (.int .i64 r) ∧ Below w.heap.size w w' := by
 have hu86 := Tryz.underlying86
 have HR0_3 := Am hr0_3
 have HC0_3 := Am hc0_3
 clear hr0_3 hc0_3
 have HR0_4 := Am hr0_4
 have HC0_4 := Am hc0_4
 clear hr0_4 hc0_4
 have HB := Am (Below.refl w.heap.size w)
 have H : ((qr.f a0_1 1 60).bind fun t253 => (if t253 = true then ((qr.f a0_2 0 32).bind fun t254 => (q9.j0 k (!t254) a0_0 a0_1 a0_2 l0_3 l0_4)) else (q9.j0 k true a0_0 a0_1 a0_2 l0_3 l0_4))) = some r := h
 clear h
 have HC2 := Am H
 clear H
 go_enter Tryz.func257, Tryz.ntmps257
 go_upto_region 1 with (((with_reducible refine gate_dst (N := 1) rfl ?_); refine box_event ?hg (N := 1) ?hd (cs := #[.int .i64 a0_0, .int .i64 a0_1, .int .i64 a0_2, .slice A0_3 l0_3.length c0_3, .slice A0_4 l0_4.length c0_4]) (t := 86) ?hr ?_; (case hd => rfl); (case hg => rfl); (case hr => (go_simp; done)); intro gb252 hg w3 hbox hb; have BK252 := Am hbox; have GW252 := Am ((nge hg HB.out)); have GE252 := Am ((nge hg HB.out)); replace HB := Am (below_step HB.out hb); clear hb hbox hg))
 repeat (go_quiet (first | ((with_reducible refine gate_dst (N := 1) rfl ?_); refine box_event ?hg (N := 1) ?hd (cs := #[.int .i64 a0_0, .int .i64 a0_1, .int .i64 a0_2, .slice A0_3 l0_3.length c0_3, .slice A0_4 l0_4.length c0_4]) (t := 86) ?hr ?_; (case hd => rfl); (case hg => rfl); (case hr => first | (go_simp; done) | (go_simp; rfl)); intro gb252 hg w3 hbox hb; have BK252 := Am hbox; have GW252 := Am ((nge hg (by repeat (first | (with_reducible first | exact HB.out | apply below_alloc | apply pw_below_drewN | apply below_drew1) | exact HB.out)))); have GE252 := Am ((nge hg (by repeat (first | (with_reducible first | exact HB.out | apply below_alloc | apply pw_below_drewN | apply below_drew1) | exact HB.out)))); replace HB := Am (below_step (by repeat (first | (with_reducible first | exact HB.out | apply below_alloc | apply pw_below_drewN | apply below_drew1) | exact HB.out)) hb); clear hb hbox hg)); go_upto_region 1 with (fail))
 go_cut [5] (fun v5 wc => ∃ (kq : Nat) (x5_1 : Bool), v5 = .bool x5_1 ∧ Aside0 (q9.j0 kq x5_1 a0_0 a0_1 a0_2 l0_3 l0_4 = some r) ∧ Aside0 (kq ≤ k) ∧ Aside0 (wc.heap[gb252]? = some (.cells #[.int .i64 a0_0, .int .i64 a0_1, .int .i64 a0_2, (.slice A0_3 l0_3.length c0_3), (.slice A0_4 l0_4.length c0_4)] 86 (0, 0))) ∧ Aside0 (Below w.heap.size w wc))
 case first =>
  have H := HC2.out
  clear HC2
  replace H := zbs H
  obtain ⟨t253, A4, H⟩ := H
  by_cases c5 : t253 = true
  ·subst c5
   have H1 : ((qr.f a0_2 0 32).bind fun t254 => (q9.j0 k (!t254) a0_0 a0_1 a0_2 l0_3 l0_4)) = some r := by rw [if_pos rfl] at H; exact H
   clear H
   have H := H1
   clear H1
   replace H := zbs H
   obtain ⟨t254, A6, H⟩ := H
   have H' := Am H
   clear H
   obtain ⟨hcz7_0, hcz7_1, hcz7_2, hcz7_3, hcz7_4, hfz7_0, hfz7_1, hfz7_2, hfz7_3, hfz7_4⟩ := cb5 BK252.out
   go_wp2_with (first | (go_at_call 69; (with_reducible refine (qr.calls a0_1 1 60 true _ A4.out).mono ?_); rintro e w' ⟨rfl, ⟨nd, rfl⟩⟩) | (go_at_call 69; (with_reducible refine (qr.calls a0_2 0 32 t254 _ A6.out).mono ?_); rintro e w' ⟨rfl, ⟨nd, rfl⟩⟩))
   repeat (go_quiet (first | (go_at_call 69; (with_reducible refine (qr.calls a0_1 1 60 true _ A4.out).mono ?_); rintro e w' ⟨rfl, ⟨nd, rfl⟩⟩; (try first | exact ⟨rfl, _, World.drewN_drewN _ _ _⟩ | exact ⟨rfl, _, Eq.trans (World.drewN_drewN _ _ _) (congrArg (World.drewN _) (Nat.add_assoc _ _ _))⟩)) | (go_at_call 69; (with_reducible refine (qr.calls a0_2 0 32 t254 _ A6.out).mono ?_); rintro e w' ⟨rfl, ⟨nd, rfl⟩⟩; (try first | exact ⟨rfl, _, World.drewN_drewN _ _ _⟩ | exact ⟨rfl, _, Eq.trans (World.drewN_drewN _ _ _) (congrArg (World.drewN _) (Nat.add_assoc _ _ _))⟩))))
   go_meet
   case rel => exact ⟨_, (!t254), (by rfl), H', ⟨by omega⟩, ⟨by (with_reducible repeat (refine blk_drewN ?_ _)); exact BK252.out⟩, ⟨by repeat ((with_reducible first | exact HB.out | apply pw_below_drewN))⟩⟩
  ·replace c5 := Bool.eq_false_iff.mpr c5
   subst c5
   have H1 : (q9.j0 k true a0_0 a0_1 a0_2 l0_3 l0_4) = some r := by rw [if_neg (show ¬ (false = true) by decide)] at H; exact H
   clear H
   have H := H1
   clear H1
   have H' := Am H
   clear H
   obtain ⟨hcz8_0, hcz8_1, hcz8_2, hcz8_3, hcz8_4, hfz8_0, hfz8_1, hfz8_2, hfz8_3, hfz8_4⟩ := cb5 BK252.out
   go_wp2_with ((go_at_call 69; (with_reducible refine (qr.calls a0_1 1 60 false _ A4.out).mono ?_); rintro e w' ⟨rfl, ⟨nd, rfl⟩⟩))
   repeat (go_quiet (first | (go_at_call 69; (with_reducible refine (qr.calls a0_1 1 60 false _ A4.out).mono ?_); rintro e w' ⟨rfl, ⟨nd, rfl⟩⟩; (try first | exact ⟨rfl, _, World.drewN_drewN _ _ _⟩ | exact ⟨rfl, _, Eq.trans (World.drewN_drewN _ _ _) (congrArg (World.drewN _) (Nat.add_assoc _ _ _))⟩))))
   go_meet
   case rel => exact ⟨_, (true), (by rfl), H', ⟨by omega⟩, ⟨by (with_reducible repeat (refine blk_drewN ?_ _)); exact BK252.out⟩, ⟨by repeat ((with_reducible first | exact HB.out | apply pw_below_drewN))⟩⟩
 case rest =>
  clear HC2
  obtain ⟨kq, x5_1, rfl, HA, HJ1, BK252, HB⟩ := hcut
  cases kq with
  | zero => exact absurd HA.out (by simp [q9.j0])
  | succ kj1 =>
   have H := HA.out
   clear HA
   simp only [q9.j0] at H
   by_cases c9 : x5_1 = true
   ·subst c9
    have H1 : (some 3) = some r := by rw [if_pos rfl] at H; exact H
    clear H
    have H := H1
    clear H1
    obtain rfl := Option.some.inj H
    go_wp2
    repeat (go_quiet (fail))
    go_ret
    exact ⟨by rfl, HB.out⟩
   ·replace c9 := Bool.eq_false_iff.mpr c9
    subst c9
    have H1 : ((qm.f l0_3).bind fun t255 => ((q6.f a0_2).bind fun t256 => (if t255 = t256 then ((q1k.f kj1 l0_3).bind fun t257 => (if t257 = true then (some 3) else (q9.l0 kj1 l0_3 (l0_3.length : Int) 0 a0_0 a0_1 a0_2 l0_3 l0_4))) else (some 1)))) = some r := by rw [if_neg (show ¬ (false = true) by decide)] at H; exact H
    clear H
    have H := H1
    clear H1
    replace H := zbs H
    obtain ⟨t255, A10, H⟩ := H
    replace H := zbs H
    obtain ⟨t256, A11, H⟩ := H
    by_cases c12 : t255 = t256
    ·rw [if_pos c12] at H
     have c12b0 : (t255 == t256) = true := beq_iff_eq.mpr c12
     have c12b1 : (t255 != t256) = false := bne_eq_false_iff_eq.mpr c12
     clear c12
     replace H := zbs H
     obtain ⟨t257, A13, H⟩ := H
     by_cases c14 : t257 = true
     ·subst c14
      have H1 : (some 3) = some r := by rw [if_pos rfl] at H; exact H
      clear H
      have H := H1
      clear H1
      obtain rfl := Option.some.inj H
      obtain ⟨hcz15_0, hcz15_1, hcz15_2, hcz15_3, hcz15_4, hfz15_0, hfz15_1, hfz15_2, hfz15_3, hfz15_4⟩ := cb5 BK252.out
      go_wp2_with (fail)
      repeat (go_quiet (first | (go_at_call 53; (with_reducible refine (qm.calls _ _ l0_3 t255 _ ?side1 ?side2 A10.out).mono ?_); (case side1 => repeat (first | exact (Kd.C_below HR0_3.out HB.out) | (with_reducible refine Kd.C_alloc ?_ _) | (with_reducible refine Kd.C_drewN ?_ _) | (with_reducible refine Kd.C_drew ?_))); (case side2 => exact HC0_3.out); rintro e w' ⟨rfl, ⟨nd, rfl⟩⟩; (try first | exact ⟨rfl, _, World.drewN_drewN _ _ _⟩ | exact ⟨rfl, _, Eq.trans (World.drewN_drewN _ _ _) (congrArg (World.drewN _) (Nat.add_assoc _ _ _))⟩)) | (go_at_call 264; (with_reducible refine (q6.calls a0_2 t256 _ A11.out).mono ?_); rintro e w' ⟨rfl, ⟨nd, rfl⟩⟩; (try first | exact ⟨rfl, _, World.drewN_drewN _ _ _⟩ | exact ⟨rfl, _, Eq.trans (World.drewN_drewN _ _ _) (congrArg (World.drewN _) (Nat.add_assoc _ _ _))⟩)) | (go_at_call 107; (with_reducible refine (q1k.calls kj1 _ _ l0_3 true _ ?side1 ?side2 A13.out).mono ?_); (case side1 => repeat (first | exact (Kd.C_below HR0_3.out (by repeat (first | (with_reducible first | exact HB.out | apply below_alloc | apply pw_below_drewN | apply below_drew1 | refine below_set ?_ GE252.out) | exact HB.out))) | (with_reducible refine Kd.C_alloc ?_ _) | (with_reducible refine Kd.C_drewN ?_ _) | (with_reducible refine Kd.C_drew ?_))); (case side2 => exact HC0_3.out); rintro e w' ⟨rfl, ⟨nd, rfl⟩⟩; (try first | exact ⟨rfl, _, World.drewN_drewN _ _ _⟩ | exact ⟨rfl, _, Eq.trans (World.drewN_drewN _ _ _) (congrArg (World.drewN _) (Nat.add_assoc _ _ _))⟩))); try go_wp2_with ((go_at_call 107; (with_reducible refine (q1k.calls kj1 _ _ l0_3 true _ ?side1 ?side2 A13.out).mono ?_); (case side1 => repeat (exact (Kd.C_below HR0_3.out (by repeat ((with_reducible first | exact HB.out | apply pw_below_drewN)))))); (case side2 => exact HC0_3.out); rintro e w' ⟨rfl, ⟨nd, rfl⟩⟩)))
      go_ret
      exact ⟨by rfl, by repeat ((with_reducible first | exact HB.out | apply pw_below_drewN))⟩
     ·replace c14 := Bool.eq_false_iff.mpr c14
      subst c14
      have H1 : (q9.l0 kj1 l0_3 (l0_3.length : Int) 0 a0_0 a0_1 a0_2 l0_3 l0_4) = some r := by rw [if_neg (show ¬ (false = true) by decide)] at H; exact H
      clear H
      have H := H1
      clear H1
      have H' := Am H
      clear H
      obtain ⟨hcz16_0, hcz16_1, hcz16_2, hcz16_3, hcz16_4, hfz16_0, hfz16_1, hfz16_2, hfz16_3, hfz16_4⟩ := cb5 BK252.out
      go_wp2_with (fail)
      repeat (go_quiet (first | (go_at_call 53; (with_reducible refine (qm.calls _ _ l0_3 t255 _ ?side1 ?side2 A10.out).mono ?_); (case side1 => repeat (first | exact (Kd.C_below HR0_3.out HB.out) | (with_reducible refine Kd.C_alloc ?_ _) | (with_reducible refine Kd.C_drewN ?_ _) | (with_reducible refine Kd.C_drew ?_))); (case side2 => exact HC0_3.out); rintro e w' ⟨rfl, ⟨nd, rfl⟩⟩; (try first | exact ⟨rfl, _, World.drewN_drewN _ _ _⟩ | exact ⟨rfl, _, Eq.trans (World.drewN_drewN _ _ _) (congrArg (World.drewN _) (Nat.add_assoc _ _ _))⟩)) | (go_at_call 264; (with_reducible refine (q6.calls a0_2 t256 _ A11.out).mono ?_); rintro e w' ⟨rfl, ⟨nd, rfl⟩⟩; (try first | exact ⟨rfl, _, World.drewN_drewN _ _ _⟩ | exact ⟨rfl, _, Eq.trans (World.drewN_drewN _ _ _) (congrArg (World.drewN _) (Nat.add_assoc _ _ _))⟩)) | (go_at_call 107; (with_reducible refine (q1k.calls kj1 _ _ l0_3 false _ ?side1 ?side2 A13.out).mono ?_); (case side1 => repeat (first | exact (Kd.C_below HR0_3.out (by repeat (first | (with_reducible first | exact HB.out | apply below_alloc | apply pw_below_drewN | apply below_drew1 | refine below_set ?_ GE252.out) | exact HB.out))) | (with_reducible refine Kd.C_alloc ?_ _) | (with_reducible refine Kd.C_drewN ?_ _) | (with_reducible refine Kd.C_drew ?_))); (case side2 => exact HC0_3.out); rintro e w' ⟨rfl, ⟨nd, rfl⟩⟩; (try first | exact ⟨rfl, _, World.drewN_drewN _ _ _⟩ | exact ⟨rfl, _, Eq.trans (World.drewN_drewN _ _ _) (congrArg (World.drewN _) (Nat.add_assoc _ _ _))⟩))); try go_wp2_with ((go_at_call 107; (with_reducible refine (q1k.calls kj1 _ _ l0_3 false _ ?side1 ?side2 A13.out).mono ?_); (case side1 => repeat (exact (Kd.C_below HR0_3.out (by repeat ((with_reducible first | exact HB.out | apply pw_below_drewN)))))); (case side2 => exact HC0_3.out); rintro e w' ⟨rfl, ⟨nd, rfl⟩⟩)))
      go_loopg [31] kj1 (fun kq v31 w' => ∃ (x31_2 : Int), v31 = .int .i64 x31_2 ∧ Aside0 (q9.l0 kq l0_3 (l0_3.length : Int) x31_2 a0_0 a0_1 a0_2 l0_3 l0_4 = some r) ∧ Aside0 (kq ≤ kj1) ∧ Aside0 (w'.heap[gb252]? = some (.cells #[.int .i64 a0_0, .int .i64 a0_1, .int .i64 a0_2, (.slice A0_3 l0_3.length c0_3), (.slice A0_4 l0_4.length c0_4)] 86 (0, 0))) ∧ Aside0 (Below w.heap.size w w'))
      case atStart => exact ⟨(0), (by rfl), H', ⟨Nat.le_refl _⟩, ⟨by (with_reducible repeat (refine blk_drewN ?_ _)); exact BK252.out⟩, ⟨by repeat ((with_reducible first | exact HB.out | apply pw_below_drewN))⟩⟩
      case round =>
       clear H'
       try clear c12b0
       try clear c12b1
       try clear hcz16_0
       try clear hcz16_1
       try clear hcz16_2
       try clear hcz16_3
       try clear hcz16_4
       try clear hfz16_0
       try clear hfz16_1
       try clear hfz16_2
       try clear hfz16_3
       try clear hfz16_4
       obtain ⟨x31_2, rfl, HA, HK2, BK252, HB⟩ := hrel
       cases gk with
       | zero => exact absurd HA.out (by simp [q9.l0])
       | succ k2 =>
        have H := HA.out
        clear HA
        simp only [q9.l0] at H
        by_cases c17 : x31_2 < (l0_3.length : Int)
        ·rw [if_pos c17] at H
         have c17b0 : decide (x31_2 < (l0_3.length : Int)) = true := decide_eq_true c17
         clear c17
         replace H := ino H
         obtain ⟨c18, H⟩ := H
         have c18b0 : decide (0 ≤ x31_2) = true := decide_eq_true c18
         clear c18
         replace H := ino H
         obtain ⟨c19, H⟩ := H
         have c19b0 : decide (x31_2 < (l0_3.length : Int)) = true := decide_eq_true c19
         clear c19
         have c20b0 := eq_true (od (by assumption) : 0 ≤ x31_2)
         replace H := ino H
         obtain ⟨c21, H⟩ := H
         have c21b0 := eq_true c21
         have c21b1 : decide (x31_2 ≤ (l0_3.length : Int)) = true := decide_eq_true c21
         clear c21
         replace H := zbs H
         obtain ⟨t260, A22, H⟩ := H
         by_cases c23 : t260 = true
         ·subst c23
          have H1 : (some 7) = some r := by rw [if_pos rfl] at H; exact H
          clear H
          have H := H1
          clear H1
          obtain rfl := Option.some.inj H
          have p258 : 0 ≤ (x31_2 : Int) := od (by assumption)
          have q258 : x31_2 < (l0_3.length : Int) := od (by assumption)
          obtain ⟨ad258, e258, hx258_0⟩ := Kd.at_int HR0_3.out x31_2 p258 q258
          cases e258
          replace hx258_0 := pcb HB.out hx258_0
          replace p258 := eq_true p258
          replace q258 := eq_true q258
          obtain ⟨hcz24_0, hcz24_1, hcz24_2, hcz24_3, hcz24_4, hfz24_0, hfz24_1, hfz24_2, hfz24_3, hfz24_4⟩ := cb5 BK252.out
          obtain ⟨i025, hi025, _, hsz25, _⟩ := info_parts info2
          obtain ⟨hcut25, hA25, hC25⟩ := print_take_of (P := Tryz.prog) (Value.int .i64) 0 38 2 .i64 Tryz.underlying38 hi025 hsz25 (some ad258) c0_3 l0_3 x31_2 (od (by assumption)) (od (by assumption)) HC0_3.out
          have HR259 := Am (Kd.C_of_reads (h1 := fun _ => rfl) (hA25 _ (Kd.reads_of_C HR0_3.out)))
          have HC259 := Am hC25
          clear hA25 hC25 hi025 hsz25
          go_wp2_with ((go_at_call 70; (rw [sl_take (l := l0_3) (i := x31_2) (od (by assumption))]); (with_reducible refine (q1l.calls k2 _ _ (l0_3.take (x31_2 : Int).toNat) (rd l0_3 x31_2) true _ ?side1 ?side2 A22.out).mono ?_); (case side1 => repeat (exact (Kd.C_below HR259.out HB.out))); (case side2 => exact HC259.out); rintro e w' ⟨rfl, ⟨nd, rfl⟩⟩))
          repeat (go_quiet (first | (go_at_call 70; (rw [sl_take (l := l0_3) (i := x31_2) (of_decide_eq_true (by first | (with_reducible assumption) | assumption))]); (with_reducible refine (q1l.calls k2 _ _ (l0_3.take (x31_2 : Int).toNat) (rd l0_3 x31_2) true _ ?side1 ?side2 A22.out).mono ?_); (case side1 => repeat (first | exact (Kd.C_below HR259.out HB.out) | (with_reducible refine Kd.C_alloc ?_ _) | (with_reducible refine Kd.C_drewN ?_ _) | (with_reducible refine Kd.C_drew ?_))); (case side2 => exact HC259.out); rintro e w' ⟨rfl, ⟨nd, rfl⟩⟩; (try first | exact ⟨rfl, _, World.drewN_drewN _ _ _⟩ | exact ⟨rfl, _, Eq.trans (World.drewN_drewN _ _ _) (congrArg (World.drewN _) (Nat.add_assoc _ _ _))⟩))))
          go_ret
          exact ⟨by rfl, by repeat ((with_reducible first | exact HB.out | apply pw_below_drewN))⟩
         ·replace c23 := Bool.eq_false_iff.mpr c23
          subst c23
          have H1 : (q9.l0 k2 l0_3 (l0_3.length : Int) (wrap64 (x31_2 + 1)) a0_0 a0_1 a0_2 l0_3 l0_4) = some r := by rw [if_neg (show ¬ (false = true) by decide)] at H; exact H
          clear H
          have H := H1
          clear H1
          have H' := Am H
          clear H
          have p258 : 0 ≤ (x31_2 : Int) := od (by assumption)
          have q258 : x31_2 < (l0_3.length : Int) := od (by assumption)
          obtain ⟨ad258, e258, hx258_0⟩ := Kd.at_int HR0_3.out x31_2 p258 q258
          cases e258
          replace hx258_0 := pcb HB.out hx258_0
          replace p258 := eq_true p258
          replace q258 := eq_true q258
          obtain ⟨hcz26_0, hcz26_1, hcz26_2, hcz26_3, hcz26_4, hfz26_0, hfz26_1, hfz26_2, hfz26_3, hfz26_4⟩ := cb5 BK252.out
          obtain ⟨i027, hi027, _, hsz27, _⟩ := info_parts info2
          obtain ⟨hcut27, hA27, hC27⟩ := print_take_of (P := Tryz.prog) (Value.int .i64) 0 38 2 .i64 Tryz.underlying38 hi027 hsz27 (some ad258) c0_3 l0_3 x31_2 (od (by assumption)) (od (by assumption)) HC0_3.out
          have HR259 := Am (Kd.C_of_reads (h1 := fun _ => rfl) (hA27 _ (Kd.reads_of_C HR0_3.out)))
          have HC259 := Am hC27
          clear hA27 hC27 hi027 hsz27
          go_wp2_with ((go_at_call 70; (rw [sl_take (l := l0_3) (i := x31_2) (od (by assumption))]); (with_reducible refine (q1l.calls k2 _ _ (l0_3.take (x31_2 : Int).toNat) (rd l0_3 x31_2) false _ ?side1 ?side2 A22.out).mono ?_); (case side1 => repeat (exact (Kd.C_below HR259.out HB.out))); (case side2 => exact HC259.out); rintro e w' ⟨rfl, ⟨nd, rfl⟩⟩))
          repeat (go_quiet (first | (go_at_call 70; (rw [sl_take (l := l0_3) (i := x31_2) (of_decide_eq_true (by first | (with_reducible assumption) | assumption))]); (with_reducible refine (q1l.calls k2 _ _ (l0_3.take (x31_2 : Int).toNat) (rd l0_3 x31_2) false _ ?side1 ?side2 A22.out).mono ?_); (case side1 => repeat (first | exact (Kd.C_below HR259.out HB.out) | (with_reducible refine Kd.C_alloc ?_ _) | (with_reducible refine Kd.C_drewN ?_ _) | (with_reducible refine Kd.C_drew ?_))); (case side2 => exact HC259.out); rintro e w' ⟨rfl, ⟨nd, rfl⟩⟩; (try first | exact ⟨rfl, _, World.drewN_drewN _ _ _⟩ | exact ⟨rfl, _, Eq.trans (World.drewN_drewN _ _ _) (congrArg (World.drewN _) (Nat.add_assoc _ _ _))⟩))))
          go_roundg k2
          case measure => have := HJ1.out; have := HK2.out; omega
          case rel => exact ⟨(wrap64 (x31_2 + 1)), (by rfl), H', ⟨by have := HJ1.out; have := HK2.out; omega⟩, ⟨by (with_reducible repeat (refine blk_drewN ?_ _)); exact BK252.out⟩, ⟨by repeat ((with_reducible first | exact HB.out | apply pw_below_drewN))⟩⟩
        ·rw [if_neg c17] at H
         have c17b0 : decide (x31_2 < (l0_3.length : Int)) = false := decide_eq_false c17
         clear c17
         obtain rfl := Option.some.inj H
         go_wp2
         repeat (go_quiet (fail))
         go_ret
         exact ⟨by rfl, HB.out⟩
    ·rw [if_neg c12] at H
     have c12b0 : (t255 == t256) = false := beq_eq_false_iff_ne.mpr c12
     have c12b1 : (t255 != t256) = true := bne_iff_ne.mpr c12
     obtain rfl := Option.some.inj H
     obtain ⟨hcz28_0, hcz28_1, hcz28_2, hcz28_3, hcz28_4, hfz28_0, hfz28_1, hfz28_2, hfz28_3, hfz28_4⟩ := cb5 BK252.out
     go_wp2_with (fail)
     repeat (go_quiet (first | (go_at_call 53; (with_reducible refine (qm.calls _ _ l0_3 t255 _ ?side1 ?side2 A10.out).mono ?_); (case side1 => repeat (first | exact (Kd.C_below HR0_3.out HB.out) | (with_reducible refine Kd.C_alloc ?_ _) | (with_reducible refine Kd.C_drewN ?_ _) | (with_reducible refine Kd.C_drew ?_))); (case side2 => exact HC0_3.out); rintro e w' ⟨rfl, ⟨nd, rfl⟩⟩; (try first | exact ⟨rfl, _, World.drewN_drewN _ _ _⟩ | exact ⟨rfl, _, Eq.trans (World.drewN_drewN _ _ _) (congrArg (World.drewN _) (Nat.add_assoc _ _ _))⟩)) | (go_at_call 264; (with_reducible refine (q6.calls a0_2 t256 _ A11.out).mono ?_); rintro e w' ⟨rfl, ⟨nd, rfl⟩⟩; (try first | exact ⟨rfl, _, World.drewN_drewN _ _ _⟩ | exact ⟨rfl, _, Eq.trans (World.drewN_drewN _ _ _) (congrArg (World.drewN _) (Nat.add_assoc _ _ _))⟩))); try go_wp2_with (fail))
     go_ret
     exact ⟨by rfl, by repeat ((with_reducible first | exact HB.out | apply pw_below_drewN))⟩
end Go.Proofs.YtafhjhdohclchaaGreatDoor.G
namespace Go.Proofs.YtafhjhdohclchaaGreatDoor.G
open Go.RowKit Go.Proofs.YtafhjhdohclchaaGreatDoorW.PrintWords Go.Proofs.YtafhjhdohclchaaGreatDoorW.PrintLast Go.Proofs.YtafhjhdohclchaaGreatDoorW.PrintMore
attribute [local go_sem] min2_int min_two
attribute [local go_sem high] str_leq
attribute [local go_sem] binOp_string_geq
mutual
def qc.j0 : Nat → Bool → Int → Int → Int → List Int → List (S143) → Option (Int)
 | 0, _, _, _, _, _, _ => none
 | k + 1, x3, x268000, x268001, x268002, x268003, x268004 => (qr.f x268000 0 2).bind fun t268 => (if t268 = true then (if x268000 = 1 then (if x268000 = 2 then (qc.j1 k false x268000 x268001 x268002 x268003 x268004) else (qc.j1 k (!((x268004.length : Int) == 0)) x268000 x268001 x268002 x268003 x268004)) else (if x3 = true then (if x268000 = 2 then (qc.j1 k false x268000 x268001 x268002 x268003 x268004) else (qc.j1 k (!((x268004.length : Int) == 0)) x268000 x268001 x268002 x268003 x268004)) else (qc.j1 k (!x3) x268000 x268001 x268002 x268003 x268004))) else (qc.j1 k (!t268) x268000 x268001 x268002 x268003 x268004))
def qc.j1 : Nat → Bool → Int → Int → Int → List Int → List (S143) → Option (Int)
 | 0, _, _, _, _, _, _ => none
 | k + 1, x23, x268000, x268001, x268002, x268003, x268004 => if x23 = true then (some 1) else (if x268000 = 1 then ((q9.f k x268000 x268001 x268002 x268003 x268004).bind fun t269 => (some t269)) else ((q8.f k x268000 x268001 x268002 x268003 x268004).bind fun t270 => (some t270)))
end
def qc.f (k : Nat) (a0_0 : Int) (a0_1 : Int) (a0_2 : Int) (l0_3 : List Int) (l0_4 : List (S143)) : Option (Int) := if a0_1 = 0 then (if a0_2 = 0 then (qc.j0 k ((l0_3.length : Int) == 0) a0_0 a0_1 a0_2 l0_3 l0_4) else (qc.j0 k false a0_0 a0_1 a0_2 l0_3 l0_4)) else (qc.j0 k false a0_0 a0_1 a0_2 l0_3 l0_4)
theorem qc.mono_l : ∀ k, (∀ y0 y1 y2 y3 y4 y5, LeO (qc.j0 k y0 y1 y2 y3 y4 y5) (qc.j0 (k + 1) y0 y1 y2 y3 y4 y5)) ∧ (∀ y0 y1 y2 y3 y4 y5, LeO (qc.j1 k y0 y1 y2 y3 y4 y5) (qc.j1 (k + 1) y0 y1 y2 y3 y4 y5))
 | 0 => ⟨fun _ _ _ _ _ _ r h => by simp [qc.j0] at h, fun _ _ _ _ _ _ r h => by simp [qc.j1] at h⟩
 | k + 1 => by
  obtain ⟨ih0, ih1⟩ := qc.mono_l k
  refine ⟨?_, ?_⟩
  ·intro y0 y1 y2 y3 y4 y5
   unfold qc.j0
   repeat' first | (with_reducible exact ih1 _ _ _ _ _ _) | (with_reducible exact LeO.refl _) | (with_reducible refine LeO.ite ?_ ?_) | (with_reducible refine LeO.bind ?_ (fun _ => ?_))
  ·intro y0 y1 y2 y3 y4 y5
   unfold qc.j1
   repeat' first | (with_reducible exact q8.mono _ _ _ _ _ _) | (with_reducible exact q9.mono _ _ _ _ _ _) | (with_reducible exact LeO.refl _) | (with_reducible refine LeO.ite ?_ ?_) | (with_reducible refine LeO.bind ?_ (fun _ => ?_))
theorem qc.mono : ∀ a0 a1 a2 a3 a4 k, LeO (qc.f k a0 a1 a2 a3 a4) (qc.f (k + 1) a0 a1 a2 a3 a4) := by
 intro a0 a1 a2 a3 a4 k
 obtain ⟨ih0, ih1⟩ := qc.mono_l k
 unfold qc.f
 repeat' first | (with_reducible exact ih0 _ _ _ _ _ _) | (with_reducible refine LeO.ite ?_ ?_)
set_option maxHeartbeats 8000000 in
set_option maxRecDepth 100000 in
theorem qc.calls (k : Nat) (a0_0 : Int) (a0_1 : Int) (a0_2 : Int) (A0_3 : Option Addr) (c0_3 : Nat) (l0_3 : List Int) (A0_4 : Option Addr) (c0_4 : Nat) (l0_4 : List (S143)) (r : Int) (w : World) (hr0_3 : Kd.C (Kd.int .i64) w A0_3 l0_3.length l0_3) (hc0_3 : l0_3.length ≤ c0_3) (hr0_4 : Kd.C k143 w A0_4 l0_4.length l0_4) (hc0_4 : l0_4.length ≤ c0_4) (h : qc.f k a0_0 a0_1 a0_2 l0_3 l0_4 = some r) :
  Calls Tryz.prog 217 #[.agg #[.int .i64 a0_0, .int .i64 a0_1, .int .i64 a0_2, .slice A0_3 l0_3.length c0_3, .slice A0_4 l0_4.length c0_4]] w fun e w' => e = .returned (.int .i64 r) ∧ Below w.heap.size w w' := by
 have hu86 := Tryz.underlying86
 have HR0_3 := Am hr0_3
 have HC0_3 := Am hc0_3
 clear hr0_3 hc0_3
 have HR0_4 := Am hr0_4
 have HC0_4 := Am hc0_4
 clear hr0_4 hc0_4
 have HB := Am (Below.refl w.heap.size w)
 have H : (if a0_1 = 0 then (if a0_2 = 0 then (qc.j0 k ((l0_3.length : Int) == 0) a0_0 a0_1 a0_2 l0_3 l0_4) else (qc.j0 k false a0_0 a0_1 a0_2 l0_3 l0_4)) else (qc.j0 k false a0_0 a0_1 a0_2 l0_3 l0_4)) = some r := h
 clear h
 have HC2 := Am H
 clear H
 go_enter Tryz.func217, Tryz.ntmps217
 go_upto_region 1 with (((with_reducible refine gate_dst (N := 1) rfl ?_); (try (refine gate_guard (by rfl) ?_; dsimp only)); refine box_event ?hg (N := 1) ?hd (cs := #[.int .i64 a0_0, .int .i64 a0_1, .int .i64 a0_2, .slice A0_3 l0_3.length c0_3, .slice A0_4 l0_4.length c0_4]) (t := 86) ?hr ?_; (case hd => rfl); (case hg => rfl); (case hr => (go_simp; done)); intro gb267 hg w3 hbox hb; have BK267 := Am hbox; have GW267 := Am ((nge hg HB.out)); have GE267 := Am ((nge hg HB.out)); replace HB := Am (below_step HB.out hb); clear hb hbox hg))
 go_cut [3] (fun v3 wc => ∃ (kq : Nat) (x3_1 : Bool), v3 = .bool x3_1 ∧ Aside0 (qc.j0 kq x3_1 a0_0 a0_1 a0_2 l0_3 l0_4 = some r) ∧ Aside0 (kq ≤ k) ∧ Aside0 (wc.heap[gb267]? = some (.cells #[.int .i64 a0_0, .int .i64 a0_1, .int .i64 a0_2, (.slice A0_3 l0_3.length c0_3), (.slice A0_4 l0_4.length c0_4)] 86 (0, 0))) ∧ Aside0 (Below w.heap.size w wc))
 case first =>
  have H := HC2.out
  clear HC2
  by_cases c4 : a0_1 = 0
  ·rw [if_pos c4] at H
   have c4b0 : (a0_1 == 0) = true := beq_iff_eq.mpr c4
   have c4b1 : (a0_1 != 0) = false := bne_eq_false_iff_eq.mpr c4
   clear c4
   by_cases c5 : a0_2 = 0
   ·rw [if_pos c5] at H
    have c5b0 : (a0_2 == 0) = true := beq_iff_eq.mpr c5
    have c5b1 : (a0_2 != 0) = false := bne_eq_false_iff_eq.mpr c5
    clear c5
    have H' := Am H
    clear H
    obtain ⟨hcz6_0, hcz6_1, hcz6_2, hcz6_3, hcz6_4, hfz6_0, hfz6_1, hfz6_2, hfz6_3, hfz6_4⟩ := cb5 BK267.out
    go_wp2
    go_meet
    case rel => exact ⟨_, (((l0_3.length : Int) == 0)), (by rfl), H', ⟨by omega⟩, ⟨by exact BK267.out⟩, ⟨HB.out⟩⟩
   ·rw [if_neg c5] at H
    have c5b0 : (a0_2 == 0) = false := beq_eq_false_iff_ne.mpr c5
    have c5b1 : (a0_2 != 0) = true := bne_iff_ne.mpr c5
    have H' := Am H
    clear H
    obtain ⟨hcz7_0, hcz7_1, hcz7_2, hcz7_3, hcz7_4, hfz7_0, hfz7_1, hfz7_2, hfz7_3, hfz7_4⟩ := cb5 BK267.out
    go_wp2
    go_meet
    case rel => exact ⟨_, (false), (by rfl), H', ⟨by omega⟩, ⟨by exact BK267.out⟩, ⟨HB.out⟩⟩
  ·rw [if_neg c4] at H
   have c4b0 : (a0_1 == 0) = false := beq_eq_false_iff_ne.mpr c4
   have c4b1 : (a0_1 != 0) = true := bne_iff_ne.mpr c4
   have H' := Am H
   clear H
   obtain ⟨hcz8_0, hcz8_1, hcz8_2, hcz8_3, hcz8_4, hfz8_0, hfz8_1, hfz8_2, hfz8_3, hfz8_4⟩ := cb5 BK267.out
   go_wp2
   go_meet
   case rel => exact ⟨_, (false), (by rfl), H', ⟨by omega⟩, ⟨by exact BK267.out⟩, ⟨HB.out⟩⟩
 case rest =>
  clear HC2
  obtain ⟨kq, x3_1, rfl, HA, HJ1, BK267, HB⟩ := hcut
  cases kq with
  | zero => exact absurd HA.out (by simp [qc.j0])
  | succ kj1 =>
   have H := HA.out
   clear HA
   simp only [qc.j0] at H
   replace H := zbs H
   obtain ⟨t268, A9, H⟩ := H
   have HC10 := Am H
   clear H
   obtain ⟨hcz11_0, hcz11_1, hcz11_2, hcz11_3, hcz11_4, hfz11_0, hfz11_1, hfz11_2, hfz11_3, hfz11_4⟩ := cb5 BK267.out
   go_upto_if 23 with (((with_reducible refine gate_callee (f := 69) rfl ?_); refine goesL_ (some 26) rfl rfl Tryz.func69 (by kernel_rfl) rfl #[.int .i64 a0_0, .int .i64 0, .int .i64 2] rfl (by (try simp only [List.map_toArray, List.map_cons, List.map_nil]); rfl) ?_; (with_reducible refine (qr.calls a0_0 0 2 t268 _ A9.out).mono ?_); rintro e w' ⟨rfl, ⟨nd, rfl⟩⟩; refine ⟨_, rfl, ?_⟩))
   go_cut [23] (fun v23 wc => ∃ (kq : Nat) (x23_9 : Bool), v23 = .bool x23_9 ∧ Aside0 (qc.j1 kq x23_9 a0_0 a0_1 a0_2 l0_3 l0_4 = some r) ∧ Aside0 (kq ≤ kj1) ∧ Aside0 (wc.heap[gb267]? = some (.cells #[.int .i64 a0_0, .int .i64 a0_1, .int .i64 a0_2, (.slice A0_3 l0_3.length c0_3), (.slice A0_4 l0_4.length c0_4)] 86 (0, 0))) ∧ Aside0 (Below w.heap.size w wc))
   case first =>
    have H := HC10.out
    clear HC10
    by_cases c12 : t268 = true
    ·subst c12
     have H1 : (if a0_0 = 1 then (if a0_0 = 2 then (qc.j1 kj1 false a0_0 a0_1 a0_2 l0_3 l0_4) else (qc.j1 kj1 (!((l0_4.length : Int) == 0)) a0_0 a0_1 a0_2 l0_3 l0_4)) else (if x3_1 = true then (if a0_0 = 2 then (qc.j1 kj1 false a0_0 a0_1 a0_2 l0_3 l0_4) else (qc.j1 kj1 (!((l0_4.length : Int) == 0)) a0_0 a0_1 a0_2 l0_3 l0_4)) else (qc.j1 kj1 (!x3_1) a0_0 a0_1 a0_2 l0_3 l0_4))) = some r := by rw [if_pos rfl] at H; exact H
     clear H
     have H := H1
     clear H1
     by_cases c13 : a0_0 = 1
     ·rw [if_pos c13] at H
      have c13b0 : (a0_0 == 1) = true := beq_iff_eq.mpr c13
      have c13b1 : (a0_0 != 1) = false := bne_eq_false_iff_eq.mpr c13
      clear c13
      by_cases c14 : a0_0 = 2
      ·rw [if_pos c14] at H
       have c14b0 : (a0_0 == 2) = true := beq_iff_eq.mpr c14
       have c14b1 : (a0_0 != 2) = false := bne_eq_false_iff_eq.mpr c14
       clear c14
       have H' := Am H
       clear H
       obtain ⟨hcz15_0, hcz15_1, hcz15_2, hcz15_3, hcz15_4, hfz15_0, hfz15_1, hfz15_2, hfz15_3, hfz15_4⟩ := cb5 BK267.out
       go_wp2
       go_meet
       case rel => exact ⟨_, (false), (by rfl), H', ⟨by have := HJ1.out; omega⟩, ⟨by (with_reducible repeat (refine blk_drewN ?_ _)); exact BK267.out⟩, ⟨by repeat ((with_reducible first | exact HB.out | apply pw_below_drewN))⟩⟩
      ·rw [if_neg c14] at H
       have c14b0 : (a0_0 == 2) = false := beq_eq_false_iff_ne.mpr c14
       have c14b1 : (a0_0 != 2) = true := bne_iff_ne.mpr c14
       have H' := Am H
       clear H
       obtain ⟨hcz16_0, hcz16_1, hcz16_2, hcz16_3, hcz16_4, hfz16_0, hfz16_1, hfz16_2, hfz16_3, hfz16_4⟩ := cb5 BK267.out
       go_wp2
       go_meet
       case rel => exact ⟨_, (!((l0_4.length : Int) == 0)), (by rfl), H', ⟨by have := HJ1.out; omega⟩, ⟨by (with_reducible repeat (refine blk_drewN ?_ _)); exact BK267.out⟩, ⟨by repeat ((with_reducible first | exact HB.out | apply pw_below_drewN))⟩⟩
     ·rw [if_neg c13] at H
      have c13b0 : (a0_0 == 1) = false := beq_eq_false_iff_ne.mpr c13
      have c13b1 : (a0_0 != 1) = true := bne_iff_ne.mpr c13
      by_cases c17 : x3_1 = true
      ·subst c17
       have H1 : (if a0_0 = 2 then (qc.j1 kj1 false a0_0 a0_1 a0_2 l0_3 l0_4) else (qc.j1 kj1 (!((l0_4.length : Int) == 0)) a0_0 a0_1 a0_2 l0_3 l0_4)) = some r := by rw [if_pos rfl] at H; exact H
       clear H
       have H := H1
       clear H1
       by_cases c18 : a0_0 = 2
       ·rw [if_pos c18] at H
        have c18b0 : (a0_0 == 2) = true := beq_iff_eq.mpr c18
        have c18b1 : (a0_0 != 2) = false := bne_eq_false_iff_eq.mpr c18
        clear c18
        have H' := Am H
        clear H
        obtain ⟨hcz19_0, hcz19_1, hcz19_2, hcz19_3, hcz19_4, hfz19_0, hfz19_1, hfz19_2, hfz19_3, hfz19_4⟩ := cb5 BK267.out
        go_wp2
        go_meet
        case rel => exact ⟨_, (false), (by rfl), H', ⟨by have := HJ1.out; omega⟩, ⟨by (with_reducible repeat (refine blk_drewN ?_ _)); exact BK267.out⟩, ⟨by repeat ((with_reducible first | exact HB.out | apply pw_below_drewN))⟩⟩
       ·rw [if_neg c18] at H
        have c18b0 : (a0_0 == 2) = false := beq_eq_false_iff_ne.mpr c18
        have c18b1 : (a0_0 != 2) = true := bne_iff_ne.mpr c18
        have H' := Am H
        clear H
        obtain ⟨hcz20_0, hcz20_1, hcz20_2, hcz20_3, hcz20_4, hfz20_0, hfz20_1, hfz20_2, hfz20_3, hfz20_4⟩ := cb5 BK267.out
        go_wp2
        go_meet
        case rel => exact ⟨_, (!((l0_4.length : Int) == 0)), (by rfl), H', ⟨by have := HJ1.out; omega⟩, ⟨by (with_reducible repeat (refine blk_drewN ?_ _)); exact BK267.out⟩, ⟨by repeat ((with_reducible first | exact HB.out | apply pw_below_drewN))⟩⟩
      ·replace c17 := Bool.eq_false_iff.mpr c17
       subst c17
       have H1 : (qc.j1 kj1 (!false) a0_0 a0_1 a0_2 l0_3 l0_4) = some r := by rw [if_neg (show ¬ (false = true) by decide)] at H; exact H
       clear H
       have H := H1
       clear H1
       have H' := Am H
       clear H
       obtain ⟨hcz21_0, hcz21_1, hcz21_2, hcz21_3, hcz21_4, hfz21_0, hfz21_1, hfz21_2, hfz21_3, hfz21_4⟩ := cb5 BK267.out
       go_wp2
       go_meet
       case rel => exact ⟨_, (!false), (by rfl), H', ⟨by have := HJ1.out; omega⟩, ⟨by (with_reducible repeat (refine blk_drewN ?_ _)); exact BK267.out⟩, ⟨by repeat ((with_reducible first | exact HB.out | apply pw_below_drewN))⟩⟩
    ·replace c12 := Bool.eq_false_iff.mpr c12
     subst c12
     have H1 : (qc.j1 kj1 (!false) a0_0 a0_1 a0_2 l0_3 l0_4) = some r := by rw [if_neg (show ¬ (false = true) by decide)] at H; exact H
     clear H
     have H := H1
     clear H1
     have H' := Am H
     clear H
     go_wp2
     go_meet
     case rel => exact ⟨_, (!false), (by rfl), H', ⟨by have := HJ1.out; omega⟩, ⟨by (with_reducible repeat (refine blk_drewN ?_ _)); exact BK267.out⟩, ⟨by repeat ((with_reducible first | exact HB.out | apply pw_below_drewN))⟩⟩
   case rest =>
    clear HC10
    try clear hcz11_0
    try clear hcz11_1
    try clear hcz11_2
    try clear hcz11_3
    try clear hcz11_4
    try clear hfz11_0
    try clear hfz11_1
    try clear hfz11_2
    try clear hfz11_3
    try clear hfz11_4
    obtain ⟨kq, x23_9, rfl, HA, HJ9, BK267, HB⟩ := hcut
    cases kq with
    | zero => exact absurd HA.out (by simp [qc.j1])
    | succ kj9 =>
     have H := HA.out
     clear HA
     simp only [qc.j1] at H
     by_cases c22 : x23_9 = true
     ·subst c22
      have H1 : (some 1) = some r := by rw [if_pos rfl] at H; exact H
      clear H
      have H := H1
      clear H1
      obtain rfl := Option.some.inj H
      go_wp2
      go_ret
      exact ⟨by rfl, HB.out⟩
     ·replace c22 := Bool.eq_false_iff.mpr c22
      subst c22
      have H1 : (if a0_0 = 1 then ((q9.f kj9 a0_0 a0_1 a0_2 l0_3 l0_4).bind fun t269 => (some t269)) else ((q8.f kj9 a0_0 a0_1 a0_2 l0_3 l0_4).bind fun t270 => (some t270))) = some r := by rw [if_neg (show ¬ (false = true) by decide)] at H; exact H
      clear H
      have H := H1
      clear H1
      by_cases c23 : a0_0 = 1
      ·rw [if_pos c23] at H
       have c23b0 : (a0_0 == 1) = true := beq_iff_eq.mpr c23
       have c23b1 : (a0_0 != 1) = false := bne_eq_false_iff_eq.mpr c23
       clear c23
       replace H := zbs H
       obtain ⟨t269, A24, H⟩ := H
       obtain rfl := Option.some.inj H
       obtain ⟨hcz25_0, hcz25_1, hcz25_2, hcz25_3, hcz25_4, hfz25_0, hfz25_1, hfz25_2, hfz25_3, hfz25_4⟩ := cb5 BK267.out
       go_wp2_with (((with_reducible refine gate_callee (f := 257) rfl ?_); refine goesL_ (some 47) rfl rfl Tryz.func257 (by kernel_rfl) rfl #[.agg #[.int .i64 a0_0, .int .i64 a0_1, .int .i64 a0_2, .slice A0_3 l0_3.length c0_3, .slice A0_4 l0_4.length c0_4]] rfl (by (try simp only [List.map_toArray, List.map_cons, List.map_nil]); rfl) ?_; (with_reducible refine (q9.calls kj9 a0_0 a0_1 a0_2 _ _ l0_3 _ _ l0_4 t269 _ ?side1 ?side2 ?side3 ?side4 A24.out).mono ?_); (case side1 => repeat (exact (Kd.C_below HR0_3.out HB.out))); (case side2 => exact HC0_3.out); (case side3 => repeat (exact (Kd.C_below HR0_4.out HB.out))); (case side4 => exact HC0_4.out); rintro e w26 ⟨rfl, hb⟩; refine ⟨_, rfl, ?_⟩; replace BK267 := Am (blk_below BK267.out hb); replace HB := Am (below_step HB.out hb); (try clear hb)))
       go_ret
       exact ⟨by rfl, HB.out⟩
      ·rw [if_neg c23] at H
       have c23b0 : (a0_0 == 1) = false := beq_eq_false_iff_ne.mpr c23
       have c23b1 : (a0_0 != 1) = true := bne_iff_ne.mpr c23
       replace H := zbs H
       obtain ⟨t270, A27, H⟩ := H
       obtain rfl := Option.some.inj H
       obtain ⟨hcz28_0, hcz28_1, hcz28_2, hcz28_3, hcz28_4, hfz28_0, hfz28_1, hfz28_2, hfz28_3, hfz28_4⟩ := cb5 BK267.out
       go_wp2_with (((with_reducible refine gate_callee (f := 258) rfl ?_); refine goesL_ (some 49) rfl rfl Tryz.func258 (by kernel_rfl) rfl #[.agg #[.int .i64 a0_0, .int .i64 a0_1, .int .i64 a0_2, .slice A0_3 l0_3.length c0_3, .slice A0_4 l0_4.length c0_4]] rfl (by (try simp only [List.map_toArray, List.map_cons, List.map_nil]); rfl) ?_; (with_reducible refine (q8.calls kj9 a0_0 a0_1 a0_2 _ _ l0_3 _ _ l0_4 t270 _ ?side1 ?side2 ?side3 ?side4 A27.out).mono ?_); (case side1 => repeat (exact (Kd.C_below HR0_3.out HB.out))); (case side2 => exact HC0_3.out); (case side3 => repeat (exact (Kd.C_below HR0_4.out HB.out))); (case side4 => exact HC0_4.out); rintro e w29 ⟨rfl, hb⟩; refine ⟨_, rfl, ?_⟩; replace BK267 := Am (blk_below BK267.out hb); replace HB := Am (below_step HB.out hb); (try clear hb)))
       go_ret
       exact ⟨by rfl, HB.out⟩
end Go.Proofs.YtafhjhdohclchaaGreatDoor.G
namespace Go.Proofs.YtafhjhdohclchaaGreatDoor.G
open Go.RowKit Go.Proofs.YtafhjhdohclchaaGreatDoorW.PrintWords Go.Proofs.YtafhjhdohclchaaGreatDoorW.PrintLast Go.Proofs.YtafhjhdohclchaaGreatDoorW.PrintMore
attribute [local go_sem] min2_int min_two
attribute [local go_sem high] str_leq
attribute [local go_sem] binOp_string_geq
/-- A state of type 28 at block g of W; what its slices lead to came in by w0. -/
def IsS28 (w0 W : World) (g : Nat) (f0 : List (S86)) (f1 : List (List Int)) : Prop := ∃ A0 c0, ∃ A1 c1, W.heap[g]? = some (.cells #[.slice A0 f0.length c0, .slice A1 f1.length c1] 28 (0, 0)) ∧ w0.heap.size ≤ g ∧ (Kd.C k86 w0 A0 f0.length f0 ∧ f0.length ≤ c0) ∧ (Kd.C (Kd.slice 5 (Kd.int .u8)) w0 A1 f1.length f1 ∧ f1.length ≤ c1)
theorem IsS28.grown {w0 W : World} {g : Nat} {f0 : List (S86)} {f1 : List (List Int)} {W1 : World} {row : Option Nat} (h : IsS28 w0 W g f0 f1) (hw : W.grownBy W1 row) (hne : some g ≠ row) : IsS28 w0 W1 g f0 f1 := by
  obtain ⟨A0, c0, A1, c1, hb, hg, hr0, hr1⟩ := h
  exact ⟨A0, c0, A1, c1, blk_grown hb hw hne, hg, hr0, hr1⟩
theorem IsS28.kept {w0 W : World} {g : Nat} {f0 : List (S86)} {f1 : List (List Int)} {W1 : World} {S : Nat → Prop} (h : IsS28 w0 W g f0 f1) (hk : Kept W W1 S) (hne : ¬ S g) : IsS28 w0 W1 g f0 f1 := by
  obtain ⟨A0, c0, A1, c1, hb, hg, hr0, hr1⟩ := h
  exact ⟨A0, c0, A1, c1, blk_kept hb hk hne, hg, hr0, hr1⟩
theorem IsS28.below {w0 W : World} {g : Nat} {f0 : List (S86)} {f1 : List (List Int)} {W1 : World} (h : IsS28 w0 W g f0 f1) (hw : Below W.heap.size W W1) : IsS28 w0 W1 g f0 f1 := h.grown (grown_of_below hw none) (by simp)
theorem IsS28.alloc {w0 W : World} {g : Nat} {f0 : List (S86)} {f1 : List (List Int)} (h : IsS28 w0 W g f0 f1) (o : Obj) : IsS28 w0 (W.alloc o) g f0 f1 := h.below (below_alloc (Below.refl _ _) o)
theorem IsS28.drewN {w0 W : World} {g : Nat} {f0 : List (S86)} {f1 : List (List Int)} (h : IsS28 w0 W g f0 f1) (m : Nat) : IsS28 w0 (W.drewN m) g f0 f1 := h
theorem IsS28.drew {w0 W : World} {g : Nat} {f0 : List (S86)} {f1 : List (List Int)} (h : IsS28 w0 W g f0 f1) : IsS28 w0 W.drew g f0 f1 := h
theorem IsS28.at_ {w0 W : World} {g : Nat} {f0 : List (S86)} {f1 : List (List Int)} {w' : World} {m : Nat} (hq : W.drewN m = w') (h : IsS28 w0 W g f0 f1) : IsS28 w0 w' g f0 f1 := by subst hq; exact IsS28.drewN h m
theorem IsS28.apart {w0 W : World} {g : Nat} {f0 : List (S86)} {f1 : List (List Int)} {α : Type} {d : Kd α} {e : Nat} {base : Nat} {ok : Nat → Prop} {v : Value} {xs : List α} (h : IsS28 w0 W g f0 f1) (ho : d.R e W base ok v xs) (ht : ∀ q, q ∈ e :: d.E → q ≠ 28) : d.R e W base (fun k => ok k ∧ k ≠ g) v xs := by
  obtain ⟨A0, c0, A1, c1, hb, hg, hr0, hr1⟩ := h
  exact Kd.R_types ho hb ht
theorem IsS28.own_ne {w0 W : World} {g : Nat} {f0 : List (S86)} {f1 : List (List Int)} {α : Type} {d : Kd α} {e : Nat} {base : Nat} {ok : Nat → Prop} {v : Value} {xs : List α} (h : IsS28 w0 W g f0 f1) (ho : d.R e W base ok v xs) (ht : e ≠ 28) : some g ≠ v.ownBlock := by
  obtain ⟨A0, c0, A1, c1, hb, hg, hr0, hr1⟩ := h
  exact Kd.R_ne ho hb ht
theorem IsS28.lt {w0 W : World} {g : Nat} {f0 : List (S86)} {f1 : List (List Int)} (h : IsS28 w0 W g f0 f1) : g < W.heap.size := by
  obtain ⟨A0, c0, A1, c1, hb, hg, hr0, hr1⟩ := h
  exact blk_lt hb
theorem IsS28.ge {w0 W : World} {g : Nat} {f0 : List (S86)} {f1 : List (List Int)} (h : IsS28 w0 W g f0 f1) : w0.heap.size ≤ g := by
  obtain ⟨A0, c0, A1, c1, hb, hg, hr0, hr1⟩ := h
  exact hg
theorem IsS28.far {w0 W : World} {g : Nat} {f0 : List (S86)} {f1 : List (List Int)} {p : Addr} (h : IsS28 w0 W g f0 f1) (hne : g ≠ p.block) (u : Value) : IsS28 w0 (W.setCell p u) g f0 f1 := by
  obtain ⟨A0, c0, A1, c1, hb, hg, hr0, hr1⟩ := h
  exact ⟨A0, c0, A1, c1, blk_far hb hne u, hg, hr0, hr1⟩
theorem cellS28_0 {W : World} {g : Nat} {A0 : Option Addr} {c0 : Nat} {A1 : Option Addr} {c1 : Nat} {f0 : List (S86)} {f1 : List (List Int)} (h : W.heap[g]? = some (.cells #[.slice A0 f0.length c0, .slice A1 f1.length c1] 28 (0, 0))) : W.cell? ⟨g, 0, none⟩ = some (.slice A0 f0.length c0) := (blk_cell h 0).trans rfl
theorem cellS28_1 {W : World} {g : Nat} {A0 : Option Addr} {c0 : Nat} {A1 : Option Addr} {c1 : Nat} {f0 : List (S86)} {f1 : List (List Int)} (h : W.heap[g]? = some (.cells #[.slice A0 f0.length c0, .slice A1 f1.length c1] 28 (0, 0))) : W.cell? ⟨g, 1, none⟩ = some (.slice A1 f1.length c1) := (blk_cell h 1).trans rfl
theorem IsS28.new (w0 W : World) (A0 : Option Addr) (c0 : Nat) (A1 : Option Addr) (c1 : Nat) (f0 : List (S86)) (f1 : List (List Int)) (hB : Below w0.heap.size w0 W) (hr0 : Kd.C k86 w0 A0 f0.length f0 ∧ f0.length ≤ c0) (hr1 : Kd.C (Kd.slice 5 (Kd.int .u8)) w0 A1 f1.length f1 ∧ f1.length ≤ c1) : IsS28 w0 (W.alloc (.cells #[.slice A0 f0.length c0, .slice A1 f1.length c1] 28)) W.heap.size f0 f1 := ⟨A0, c0, A1, c1, by simpa using heap_alloc_new W _, hB.size, hr0, hr1⟩
/-- A state of type 86 at block g of W; what its slices lead to came in by w0. -/
def IsS86 (w0 W : World) (g : Nat) (f0 : Int) (f1 : Int) (f2 : Int) (f3 : List Int) (f4 : List (S143)) : Prop := ∃ A3 c3, ∃ A4 c4, W.heap[g]? = some (.cells #[.int .i64 f0, .int .i64 f1, .int .i64 f2, .slice A3 f3.length c3, .slice A4 f4.length c4] 86 (0, 0)) ∧ w0.heap.size ≤ g ∧ (Kd.C (Kd.int .i64) w0 A3 f3.length f3 ∧ f3.length ≤ c3) ∧ (Kd.C k143 w0 A4 f4.length f4 ∧ f4.length ≤ c4)
theorem IsS86.grown {w0 W : World} {g : Nat} {f0 : Int} {f1 : Int} {f2 : Int} {f3 : List Int} {f4 : List (S143)} {W1 : World} {row : Option Nat} (h : IsS86 w0 W g f0 f1 f2 f3 f4) (hw : W.grownBy W1 row) (hne : some g ≠ row) : IsS86 w0 W1 g f0 f1 f2 f3 f4 := by
  obtain ⟨A3, c3, A4, c4, hb, hg, hr3, hr4⟩ := h
  exact ⟨A3, c3, A4, c4, blk_grown hb hw hne, hg, hr3, hr4⟩
theorem IsS86.kept {w0 W : World} {g : Nat} {f0 : Int} {f1 : Int} {f2 : Int} {f3 : List Int} {f4 : List (S143)} {W1 : World} {S : Nat → Prop} (h : IsS86 w0 W g f0 f1 f2 f3 f4) (hk : Kept W W1 S) (hne : ¬ S g) : IsS86 w0 W1 g f0 f1 f2 f3 f4 := by
  obtain ⟨A3, c3, A4, c4, hb, hg, hr3, hr4⟩ := h
  exact ⟨A3, c3, A4, c4, blk_kept hb hk hne, hg, hr3, hr4⟩
theorem IsS86.below {w0 W : World} {g : Nat} {f0 : Int} {f1 : Int} {f2 : Int} {f3 : List Int} {f4 : List (S143)} {W1 : World} (h : IsS86 w0 W g f0 f1 f2 f3 f4) (hw : Below W.heap.size W W1) : IsS86 w0 W1 g f0 f1 f2 f3 f4 := h.grown (grown_of_below hw none) (by simp)
theorem IsS86.alloc {w0 W : World} {g : Nat} {f0 : Int} {f1 : Int} {f2 : Int} {f3 : List Int} {f4 : List (S143)} (h : IsS86 w0 W g f0 f1 f2 f3 f4) (o : Obj) : IsS86 w0 (W.alloc o) g f0 f1 f2 f3 f4 := h.below (below_alloc (Below.refl _ _) o)
theorem IsS86.drewN {w0 W : World} {g : Nat} {f0 : Int} {f1 : Int} {f2 : Int} {f3 : List Int} {f4 : List (S143)} (h : IsS86 w0 W g f0 f1 f2 f3 f4) (m : Nat) : IsS86 w0 (W.drewN m) g f0 f1 f2 f3 f4 := h
theorem IsS86.drew {w0 W : World} {g : Nat} {f0 : Int} {f1 : Int} {f2 : Int} {f3 : List Int} {f4 : List (S143)} (h : IsS86 w0 W g f0 f1 f2 f3 f4) : IsS86 w0 W.drew g f0 f1 f2 f3 f4 := h
theorem IsS86.at_ {w0 W : World} {g : Nat} {f0 : Int} {f1 : Int} {f2 : Int} {f3 : List Int} {f4 : List (S143)} {w' : World} {m : Nat} (hq : W.drewN m = w') (h : IsS86 w0 W g f0 f1 f2 f3 f4) : IsS86 w0 w' g f0 f1 f2 f3 f4 := by subst hq; exact IsS86.drewN h m
theorem IsS86.apart {w0 W : World} {g : Nat} {f0 : Int} {f1 : Int} {f2 : Int} {f3 : List Int} {f4 : List (S143)} {α : Type} {d : Kd α} {e : Nat} {base : Nat} {ok : Nat → Prop} {v : Value} {xs : List α} (h : IsS86 w0 W g f0 f1 f2 f3 f4) (ho : d.R e W base ok v xs) (ht : ∀ q, q ∈ e :: d.E → q ≠ 86) : d.R e W base (fun k => ok k ∧ k ≠ g) v xs := by
  obtain ⟨A3, c3, A4, c4, hb, hg, hr3, hr4⟩ := h
  exact Kd.R_types ho hb ht
theorem IsS86.own_ne {w0 W : World} {g : Nat} {f0 : Int} {f1 : Int} {f2 : Int} {f3 : List Int} {f4 : List (S143)} {α : Type} {d : Kd α} {e : Nat} {base : Nat} {ok : Nat → Prop} {v : Value} {xs : List α} (h : IsS86 w0 W g f0 f1 f2 f3 f4) (ho : d.R e W base ok v xs) (ht : e ≠ 86) : some g ≠ v.ownBlock := by
  obtain ⟨A3, c3, A4, c4, hb, hg, hr3, hr4⟩ := h
  exact Kd.R_ne ho hb ht
theorem IsS86.ge {w0 W : World} {g : Nat} {f0 : Int} {f1 : Int} {f2 : Int} {f3 : List Int} {f4 : List (S143)} (h : IsS86 w0 W g f0 f1 f2 f3 f4) : w0.heap.size ≤ g := by
  obtain ⟨A3, c3, A4, c4, hb, hg, hr3, hr4⟩ := h
  exact hg
theorem IsS86.far {w0 W : World} {g : Nat} {f0 : Int} {f1 : Int} {f2 : Int} {f3 : List Int} {f4 : List (S143)} {p : Addr} (h : IsS86 w0 W g f0 f1 f2 f3 f4) (hne : g ≠ p.block) (u : Value) : IsS86 w0 (W.setCell p u) g f0 f1 f2 f3 f4 := by
  obtain ⟨A3, c3, A4, c4, hb, hg, hr3, hr4⟩ := h
  exact ⟨A3, c3, A4, c4, blk_far hb hne u, hg, hr3, hr4⟩
theorem IsS86.new (w0 W : World) (A3 : Option Addr) (c3 : Nat) (A4 : Option Addr) (c4 : Nat) (f0 : Int) (f1 : Int) (f2 : Int) (f3 : List Int) (f4 : List (S143)) (hB : Below w0.heap.size w0 W) (hr3 : Kd.C (Kd.int .i64) w0 A3 f3.length f3 ∧ f3.length ≤ c3) (hr4 : Kd.C k143 w0 A4 f4.length f4 ∧ f4.length ≤ c4) : IsS86 w0 (W.alloc (.cells #[.int .i64 f0, .int .i64 f1, .int .i64 f2, .slice A3 f3.length c3, .slice A4 f4.length c4] 86)) W.heap.size f0 f1 f2 f3 f4 := ⟨A3, c3, A4, c4, by simpa using heap_alloc_new W _, hB.size, hr3, hr4⟩
def q1r.f (a0 : Int) (a1 : Int) (a2 : Int) : Option (Bool) := if a0 ≥ a1 then (some (decide (a0 ≤ a2))) else (some false)
set_option maxHeartbeats 8000000 in
set_option maxRecDepth 100000 in
theorem q1r.calls (a0 : Int) (a1 : Int) (a2 : Int) (r : Bool) (w : World) (h : q1r.f a0 a1 a2 = some r) :
  Calls Tryz.prog 67 #[.int .i64 a0, .int .i64 a1, .int .i64 a2] w fun e w' => e = .returned (.bool r) ∧ Drawn0 w w' := by
 have H : (if a0 ≥ a1 then (some (decide (a0 ≤ a2))) else (some false)) = some r := h
 clear h
 by_cases c4 : a0 ≥ a1
 ·rw [if_pos c4] at H
  have c4b0 : decide (a1 ≤ a0) = true := decide_eq_true c4
  clear c4
  obtain rfl := Option.some.inj H
  go_enter Tryz.func67, Tryz.ntmps67
  go_wp2
  go_ret
  exact ⟨by rfl, by repeat (exact Drawn0.refl _)⟩
 ·rw [if_neg c4] at H
  have c4b0 : decide (a1 ≤ a0) = false := decide_eq_false c4
  clear c4
  obtain rfl := Option.some.inj H
  go_enter Tryz.func67, Tryz.ntmps67
  go_wp2
  go_ret
  exact ⟨by rfl, by repeat (exact Drawn0.refl _)⟩
def q1p.l0 : Nat → ByteArray → Int → Option (Int)
 | 0, _, _ => none
 | k + 1, x0, x3 => if x3 < (x0.size : Int) then (if 0 ≤ x3 then (if (bt x0 x3) < 97 then (some 5) else (if (bt x0 x3) > 122 then (some 5) else (q1p.l0 k x0 (wrap64 (x3 + 1))))) else (none)) else (if x0.toList = ([] : List UInt8) then (some 5) else (if (x0.size : Int) > 4 then (some 2) else (some 0)))
def q1p.f (k : Nat) (a0 : ByteArray) : Option (Int) := q1p.l0 k a0 0
theorem q1p.mono_l : ∀ k, (∀ y0 y1, LeO (q1p.l0 k y0 y1) (q1p.l0 (k + 1) y0 y1))
 | 0 => fun _ _ r h => by simp [q1p.l0] at h
 | k + 1 => by
  have ih0 := q1p.mono_l k
  ·intro y0 y1
   unfold q1p.l0
   repeat' first | (with_reducible exact ih0 _ _) | (with_reducible exact LeO.refl _) | (with_reducible refine LeO.ite ?_ ?_)
theorem q1p.mono : ∀ a0 k, LeO (q1p.f k a0) (q1p.f (k + 1) a0) := by
 intro a0 k
 have ih0 := q1p.mono_l k
 unfold q1p.f
 repeat' (with_reducible exact ih0 _ _)
set_option maxHeartbeats 8000000 in
set_option maxRecDepth 100000 in
theorem q1p.calls (k : Nat) (a0 : ByteArray) (r : Int) (w : World) (h : q1p.f k a0 = some r) :
  Calls Tryz.prog 290 #[.string a0] w fun e w' => e = .returned (.int .i64 r) ∧ Drawn0 w w' := by
 have H : (q1p.l0 k a0 0) = some r := h
 clear h
 have H' := Am H
 clear H
 go_enter Tryz.func290, Tryz.ntmps290
 go_wp2
 go_loopg [3] k (fun kq v3 w' => ∃ (x3_1 : Int), v3 = .int .i64 x3_1 ∧ Aside0 (q1p.l0 kq a0 x3_1 = some r) ∧ Aside0 (kq ≤ k) ∧ Drawn0 w w')
 case atStart => exact ⟨(0), (by rfl), H', ⟨Nat.le_refl _⟩, by repeat (exact Drawn0.refl _)⟩
 case round =>
  clear H'
  obtain ⟨x3_1, rfl, HA, HK1, ⟨m1, rfl⟩⟩ := hrel
  cases gk with
  | zero => exact absurd HA.out (by simp [q1p.l0])
  | succ k1 =>
   have H := HA.out
   clear HA
   simp only [q1p.l0] at H
   by_cases c2 : x3_1 < (a0.size : Int)
   ·rw [if_pos c2] at H
    have c2b0 : decide (x3_1 < (a0.size : Int)) = true := decide_eq_true c2
    clear c2
    replace H := ino H
    obtain ⟨c3, H⟩ := H
    have c3b0 : decide (0 ≤ x3_1) = true := decide_eq_true c3
    clear c3
    by_cases c5 : (bt a0 x3_1) < 97
    ·rw [if_pos c5] at H
     have c5b0 : decide ((bt a0 x3_1) < 97) = true := decide_eq_true c5
     clear c5
     obtain rfl := Option.some.inj H
     have p4 : 0 ≤ (x3_1 : Int) := od (by assumption)
     have q4 : x3_1 < (a0.size : Int) := od (by assumption)
     have hx4 := bt_at a0 x3_1
     replace p4 := eq_true p4
     replace q4 := eq_true q4
     go_wp2
     go_ret
     exact ⟨by rfl, by repeat (first | exact Drawn0.refl _ | apply Drawn0.step)⟩
    ·rw [if_neg c5] at H
     have c5b0 : decide ((bt a0 x3_1) < 97) = false := decide_eq_false c5
     clear c5
     by_cases c7 : (bt a0 x3_1) > 122
     ·rw [if_pos c7] at H
      have c7b0 : decide (122 < (bt a0 x3_1)) = true := decide_eq_true c7
      clear c7
      obtain rfl := Option.some.inj H
      have p4 : 0 ≤ (x3_1 : Int) := od (by assumption)
      have q4 : x3_1 < (a0.size : Int) := od (by assumption)
      have hx4 := bt_at a0 x3_1
      replace p4 := eq_true p4
      replace q4 := eq_true q4
      have p6 : 0 ≤ (x3_1 : Int) := od (by assumption)
      have q6 : x3_1 < (a0.size : Int) := od (by assumption)
      have hx6 := bt_at a0 x3_1
      replace p6 := eq_true p6
      replace q6 := eq_true q6
      go_wp2
      go_ret
      exact ⟨by rfl, by repeat (first | exact Drawn0.refl _ | apply Drawn0.step)⟩
     ·rw [if_neg c7] at H
      have c7b0 : decide (122 < (bt a0 x3_1)) = false := decide_eq_false c7
      clear c7
      have H' := Am H
      clear H
      have p4 : 0 ≤ (x3_1 : Int) := od (by assumption)
      have q4 : x3_1 < (a0.size : Int) := od (by assumption)
      have hx4 := bt_at a0 x3_1
      replace p4 := eq_true p4
      replace q4 := eq_true q4
      have p6 : 0 ≤ (x3_1 : Int) := od (by assumption)
      have q6 : x3_1 < (a0.size : Int) := od (by assumption)
      have hx6 := bt_at a0 x3_1
      replace p6 := eq_true p6
      replace q6 := eq_true q6
      go_wp2
      go_roundg k1
      case measure => have := HK1.out; omega
      case rel => exact ⟨(wrap64 (x3_1 + 1)), (by rfl), H', ⟨by have := HK1.out; omega⟩, by repeat (first | exact Drawn0.refl _ | apply Drawn0.step)⟩
   ·rw [if_neg c2] at H
    have c2b0 : decide (x3_1 < (a0.size : Int)) = false := decide_eq_false c2
    clear c2
    by_cases c8 : a0.toList = ([] : List UInt8)
    ·rw [if_pos c8] at H
     have c8b0 : (a0.toList == ([] : List UInt8)) = true := beq_iff_eq.mpr c8
     have c8b1 : (a0.toList != ([] : List UInt8)) = false := bne_eq_false_iff_eq.mpr c8
     clear c8
     obtain rfl := Option.some.inj H
     go_wp2
     go_ret
     exact ⟨by rfl, by repeat (first | exact Drawn0.refl _ | apply Drawn0.step)⟩
    ·rw [if_neg c8] at H
     have c8b0 : (a0.toList == ([] : List UInt8)) = false := beq_eq_false_iff_ne.mpr c8
     have c8b1 : (a0.toList != ([] : List UInt8)) = true := bne_iff_ne.mpr c8
     by_cases c9 : (a0.size : Int) > 4
     ·rw [if_pos c9] at H
      have c9b0 : decide (4 < (a0.size : Int)) = true := decide_eq_true c9
      have c9b1 : decide (4 < a0.size) = true := decide_eq_true (by omega)
      clear c9
      obtain rfl := Option.some.inj H
      go_wp2
      go_ret
      exact ⟨by rfl, by repeat (first | exact Drawn0.refl _ | apply Drawn0.step)⟩
     ·rw [if_neg c9] at H
      have c9b0 : decide (4 < (a0.size : Int)) = false := decide_eq_false c9
      have c9b1 : decide (4 < a0.size) = false := decide_eq_false (by omega)
      clear c9
      obtain rfl := Option.some.inj H
      go_wp2
      go_ret
      exact ⟨by rfl, by repeat (first | exact Drawn0.refl _ | apply Drawn0.step)⟩
def q1u.l0 : Nat → Int → Int → Int → Int → List Int → List (S143) → Option (Int × Int × Int × Int)
 | 0, _, _, _, _, _, _ => none
 | k + 1, x3, x1000, x1001, x1002, x1003, x1004 => if x3 < (x1004.length : Int) then (if 0 ≤ x3 then ((q1p.f k ((rd_T143 x1004 x3).f0)).bind fun t639 => (if t639 = 0 then ((q1r.f ((rd_T143 x1004 x3).f1) 0 9).bind fun t641 => (if t641 = true then (if x3 > 0 then (if 0 ≤ (wrap64 (x3 - 1)) then (if (wrap64 (x3 - 1)) < (x1004.length : Int) then (if ((Op.bytesLess (((rd_T143 x1004 (wrap64 (x3 - 1))).f0).toList) (((rd_T143 x1004 x3).f0).toList)) = true) then (q1u.l0 k (wrap64 (x3 + 1)) x1000 x1001 x1002 x1003 x1004) else (some (1, x1000, x1001, x1002))) else (none)) else (none)) else (q1u.l0 k (wrap64 (x3 + 1)) x1000 x1001 x1002 x1003 x1004)) else (some (3, x1000, x1001, x1002)))) else (some (t639, x1000, x1001, x1002)))) else (none)) else (some (0, x1000, x1001, x1002))
def q1u.f (k : Nat) (s0_0 : Int) (s0_1 : Int) (s0_2 : Int) (s0_3 : List Int) (s0_4 : List (S143)) : Option (Int × Int × Int × Int) := if (s0_4.length : Int) > 6 then (some (2, s0_0, s0_1, s0_2)) else (q1u.l0 k 0 s0_0 s0_1 s0_2 s0_3 s0_4)
theorem q1u.mono_l : ∀ k, (∀ y0 y1 y2 y3 y4 y5, LeO (q1u.l0 k y0 y1 y2 y3 y4 y5) (q1u.l0 (k + 1) y0 y1 y2 y3 y4 y5))
 | 0 => fun _ _ _ _ _ _ r h => by simp [q1u.l0] at h
 | k + 1 => by
  have ih0 := q1u.mono_l k
  ·intro y0 y1 y2 y3 y4 y5
   unfold q1u.l0
   repeat' first | (with_reducible exact ih0 _ _ _ _ _ _) | (with_reducible exact q1p.mono _ _) | (with_reducible exact LeO.refl _) | (with_reducible refine LeO.ite ?_ ?_) | (with_reducible refine LeO.bind ?_ (fun _ => ?_))
theorem q1u.mono : ∀ a0 a1 a2 a3 a4 k, LeO (q1u.f k a0 a1 a2 a3 a4) (q1u.f (k + 1) a0 a1 a2 a3 a4) := by
 intro a0 a1 a2 a3 a4 k
 have ih0 := q1u.mono_l k
 unfold q1u.f
 repeat' first | (with_reducible exact ih0 _ _ _ _ _ _) | (with_reducible exact LeO.refl _) | (with_reducible refine LeO.ite ?_ ?_)
def q1x.f (a0 : Int) : Option (Int) := some (wrap64 (Int.tdiv (wrap64 ((wrap64 (a0 + 8)) - 1)) 8))
set_option maxHeartbeats 8000000 in
set_option maxRecDepth 100000 in
theorem q1x.calls (a0 : Int) (r : Int) (w : World) (h : q1x.f a0 = some r) :
  Calls Tryz.prog 302 #[.int .i64 a0] w fun e w' => e = .returned (.int .i64 r) ∧ Drawn0 w w' := by
 have H : (some (wrap64 (Int.tdiv (wrap64 ((wrap64 (a0 + 8)) - 1)) 8))) = some r := h
 clear h
 obtain rfl := Option.some.inj H
 go_enter Tryz.func302, Tryz.ntmps302
 go_wp2
 go_ret
 exact ⟨by rfl, by repeat (exact Drawn0.refl _)⟩
def q1y.f (a0 : Int) : Option (Bool) := (q1r.f a0 0 32).bind fun t630 => (some t630)
set_option maxHeartbeats 8000000 in
set_option maxRecDepth 100000 in
theorem q1y.calls (a0 : Int) (r : Bool) (w : World) (h : q1y.f a0 = some r) :
  Calls Tryz.prog 301 #[.int .i64 a0] w fun e w' => e = .returned (.bool r) ∧ Drawn0 w w' := by
 have H : ((q1r.f a0 0 32).bind fun t630 => (some t630)) = some r := h
 clear h
 replace H := zbs H
 obtain ⟨t630, A2, H⟩ := H
 obtain rfl := Option.some.inj H
 go_enter Tryz.func301, Tryz.ntmps301
 go_wp2_with (((with_reducible refine gate_callee (f := 67) rfl ?_); refine goesL_ (some 4) rfl rfl Tryz.func67 (by kernel_rfl) rfl #[.int .i64 a0, .int .i64 0, .int .i64 32] rfl (by (try simp only [List.map_toArray, List.map_cons, List.map_nil]); rfl) ?_; (with_reducible refine (q1r.calls a0 0 32 t630 _ A2.out).mono ?_); rintro e w' ⟨rfl, ⟨nd, rfl⟩⟩; refine ⟨_, rfl, ?_⟩))
 go_ret
 exact ⟨by rfl, by repeat (first | exact Drawn0.refl _ | apply Drawn0.step)⟩
end Go.Proofs.YtafhjhdohclchaaGreatDoor.G
namespace Go.Proofs.YtafhjhdohclchaaGreatDoor.G
open Go.RowKit Go.Proofs.YtafhjhdohclchaaGreatDoorW.PrintWords Go.Proofs.YtafhjhdohclchaaGreatDoorW.PrintLast Go.Proofs.YtafhjhdohclchaaGreatDoorW.PrintMore
attribute [local go_sem] min2_int min_two
attribute [local go_sem high] str_leq
attribute [local go_sem] binOp_string_geq
mutual
def q1w.j0 : Nat → Bool → Int → Int → Int → List Int → List (S143) → Option (Int × Int × Int × Int)
 | 0, _, _, _, _, _, _ => none
 | k + 1, x19, x1000, x1001, x1002, x1003, x1004 => if x19 = true then (some (3, x1000, x1001, x1002)) else ((q1x.f x1002).bind fun t633 => (if (x1003.length : Int) = t633 then (q1w.l0 k 0 x1000 x1001 x1002 x1003 x1004) else (some (1, x1000, x1001, x1002))))
def q1w.l0 : Nat → Int → Int → Int → Int → List Int → List (S143) → Option (Int × Int × Int × Int)
 | 0, _, _, _, _, _, _ => none
 | k + 1, x3, x1000, x1001, x1002, x1003, x1004 => if x3 < (x1003.length : Int) then (if 0 ≤ x3 then ((q1r.f (rd x1003 x3) 0 19).bind fun t635 => (if t635 = true then (q1w.l0 k (wrap64 (x3 + 1)) x1000 x1001 x1002 x1003 x1004) else (some (3, x1000, x1001, x1002)))) else (none)) else (q1w.l1 k 0 x1000 x1001 x1002 x1003 x1004)
def q1w.l1 : Nat → Int → Int → Int → Int → List Int → List (S143) → Option (Int × Int × Int × Int)
 | 0, _, _, _, _, _, _ => none
 | k + 1, x4, x1000, x1001, x1002, x1003, x1004 => if x4 < (x1003.length : Int) then (q1w.l2 k x4 0 x1000 x1001 x1002 x1003 x1004) else (some (0, x1000, x1001, x1002))
def q1w.l2 : Nat → Int → Int → Int → Int → Int → List Int → List (S143) → Option (Int × Int × Int × Int)
 | 0, _, _, _, _, _, _, _ => none
 | k + 1, x4, x5, x1000, x1001, x1002, x1003, x1004 => if x5 < x4 then (if 0 ≤ x5 then (if x5 < (x1003.length : Int) then (if 0 ≤ x4 then (if x4 < (x1003.length : Int) then (if (rd x1003 x5) = (rd x1003 x4) then (some (7, x1000, x1001, x1002)) else (q1w.l2 k x4 (wrap64 (x5 + 1)) x1000 x1001 x1002 x1003 x1004)) else (none)) else (none)) else (none)) else (none)) else (q1w.l1 k (wrap64 (x4 + 1)) x1000 x1001 x1002 x1003 x1004)
end
def q1w.f (k : Nat) (s0_0 : Int) (s0_1 : Int) (s0_2 : Int) (s0_3 : List Int) (s0_4 : List (S143)) : Option (Int × Int × Int × Int) := (q1r.f s0_1 1 60).bind fun t631 => (if t631 = true then ((q1y.f s0_2).bind fun t632 => (q1w.j0 k (!t632) s0_0 s0_1 s0_2 s0_3 s0_4)) else (q1w.j0 k true s0_0 s0_1 s0_2 s0_3 s0_4))
theorem q1w.mono_l : ∀ k, (∀ y0 y1 y2 y3 y4 y5, LeO (q1w.j0 k y0 y1 y2 y3 y4 y5) (q1w.j0 (k + 1) y0 y1 y2 y3 y4 y5)) ∧ (∀ y0 y1 y2 y3 y4 y5, LeO (q1w.l0 k y0 y1 y2 y3 y4 y5) (q1w.l0 (k + 1) y0 y1 y2 y3 y4 y5)) ∧ (∀ y0 y1 y2 y3 y4 y5, LeO (q1w.l1 k y0 y1 y2 y3 y4 y5) (q1w.l1 (k + 1) y0 y1 y2 y3 y4 y5)) ∧ (∀ y0 y1 y2 y3 y4 y5 y6, LeO (q1w.l2 k y0 y1 y2 y3 y4 y5 y6) (q1w.l2 (k + 1) y0 y1 y2 y3 y4 y5 y6))
 | 0 => ⟨fun _ _ _ _ _ _ r h => by simp [q1w.j0] at h, fun _ _ _ _ _ _ r h => by simp [q1w.l0] at h, fun _ _ _ _ _ _ r h => by simp [q1w.l1] at h, fun _ _ _ _ _ _ _ r h => by simp [q1w.l2] at h⟩
 | k + 1 => by
  obtain ⟨ih0, ih1, ih2, ih3⟩ := q1w.mono_l k
  refine ⟨?_, ?_, ?_, ?_⟩
  ·intro y0 y1 y2 y3 y4 y5
   unfold q1w.j0
   repeat' first | (with_reducible exact ih1 _ _ _ _ _ _) | (with_reducible exact LeO.refl _) | (with_reducible refine LeO.ite ?_ ?_) | (with_reducible refine LeO.bind ?_ (fun _ => ?_))
  ·intro y0 y1 y2 y3 y4 y5
   unfold q1w.l0
   repeat' first | (with_reducible exact ih1 _ _ _ _ _ _) | (with_reducible exact ih2 _ _ _ _ _ _) | (with_reducible exact LeO.refl _) | (with_reducible refine LeO.ite ?_ ?_) | (with_reducible refine LeO.bind ?_ (fun _ => ?_))
  ·intro y0 y1 y2 y3 y4 y5
   unfold q1w.l1
   repeat' first | (with_reducible exact ih3 _ _ _ _ _ _ _) | (with_reducible exact LeO.refl _) | (with_reducible refine LeO.ite ?_ ?_)
  ·intro y0 y1 y2 y3 y4 y5 y6
   unfold q1w.l2
   repeat' first | (with_reducible exact ih2 _ _ _ _ _ _) | (with_reducible exact ih3 _ _ _ _ _ _ _) | (with_reducible exact LeO.refl _) | (with_reducible refine LeO.ite ?_ ?_)
theorem q1w.mono : ∀ a0 a1 a2 a3 a4 k, LeO (q1w.f k a0 a1 a2 a3 a4) (q1w.f (k + 1) a0 a1 a2 a3 a4) := by
 intro a0 a1 a2 a3 a4 k
 obtain ⟨ih0, ih1, ih2, ih3⟩ := q1w.mono_l k
 unfold q1w.f
 repeat' first | (with_reducible exact ih0 _ _ _ _ _ _) | (with_reducible exact LeO.refl _) | (with_reducible refine LeO.ite ?_ ?_) | (with_reducible refine LeO.bind ?_ (fun _ => ?_))
end Go.Proofs.YtafhjhdohclchaaGreatDoor.G
namespace Go.Proofs.YtafhjhdohclchaaGreatDoor.G
open Go.RowKit Go.Proofs.YtafhjhdohclchaaGreatDoorW.PrintWords Go.Proofs.YtafhjhdohclchaaGreatDoorW.PrintLast Go.Proofs.YtafhjhdohclchaaGreatDoorW.PrintMore
attribute [local go_sem] min2_int min_two
attribute [local go_sem high] str_leq
attribute [local go_sem] binOp_string_geq
def q1v.j0 : Nat → Bool → Int → Int → Int → List Int → List (S143) → Option (Int × Int × Int × Int)
 | 0, _, _, _, _, _, _ => none
 | k + 1, x50, x1000, x1001, x1002, x1003, x1004 => if x50 = true then (some (1, x1000, x1001, x1002)) else (if x1000 = 1 then ((q1w.f k x1000 x1001 x1002 x1003 x1004).bind fun bt645 => (some (bt645.1, bt645.2.1, bt645.2.2.1, bt645.2.2.2))) else (if x1000 = 2 then ((q1u.f k x1000 x1001 x1002 x1003 x1004).bind fun bt649 => (some (bt649.1, bt649.2.1, bt649.2.2.1, bt649.2.2.2))) else (some (0, x1000, x1001, x1002))))
def q1v.f (k : Nat) (s0_0 : Int) (s0_1 : Int) (s0_2 : Int) (s0_3 : List Int) (s0_4 : List (S143)) : Option (Int × Int × Int × Int) := (q1r.f s0_0 0 2).bind fun t644 => (if t644 = true then (if s0_0 = 1 then (if s0_0 = 2 then (q1v.j0 k false s0_0 s0_1 s0_2 s0_3 s0_4) else (q1v.j0 k (decide ((s0_4.length : Int) > 0)) s0_0 s0_1 s0_2 s0_3 s0_4)) else (if s0_1 = 0 then (if s0_2 = 0 then (if (s0_3.length : Int) > 0 then (q1v.j0 k true s0_0 s0_1 s0_2 s0_3 s0_4) else (if s0_0 = 2 then (q1v.j0 k false s0_0 s0_1 s0_2 s0_3 s0_4) else (q1v.j0 k (decide ((s0_4.length : Int) > 0)) s0_0 s0_1 s0_2 s0_3 s0_4))) else (q1v.j0 k true s0_0 s0_1 s0_2 s0_3 s0_4)) else (q1v.j0 k true s0_0 s0_1 s0_2 s0_3 s0_4))) else (some (1, s0_0, s0_1, s0_2)))
theorem q1v.mono_l : ∀ k, (∀ y0 y1 y2 y3 y4 y5, LeO (q1v.j0 k y0 y1 y2 y3 y4 y5) (q1v.j0 (k + 1) y0 y1 y2 y3 y4 y5))
 | 0 => fun _ _ _ _ _ _ r h => by simp [q1v.j0] at h
 | k + 1 => by
  have ih0 := q1v.mono_l k
  ·intro y0 y1 y2 y3 y4 y5
   unfold q1v.j0
   repeat' first | (with_reducible exact q1u.mono _ _ _ _ _ _) | (with_reducible exact q1w.mono _ _ _ _ _ _) | (with_reducible exact LeO.refl _) | (with_reducible refine LeO.ite ?_ ?_) | (with_reducible refine LeO.bind ?_ (fun _ => ?_))
theorem q1v.mono : ∀ a0 a1 a2 a3 a4 k, LeO (q1v.f k a0 a1 a2 a3 a4) (q1v.f (k + 1) a0 a1 a2 a3 a4) := by
 intro a0 a1 a2 a3 a4 k
 have ih0 := q1v.mono_l k
 unfold q1v.f
 repeat' first | (with_reducible exact ih0 _ _ _ _ _ _) | (with_reducible exact LeO.refl _) | (with_reducible refine LeO.ite ?_ ?_) | (with_reducible refine LeO.bind ?_ (fun _ => ?_))
theorem nums_one (k : IntKind) (l : List Int) : (nums k l).toArray.all (·.oneCell') = true :=
 Array.all_eq_true_iff_forall_mem.2 fun v hv => by
  obtain ⟨x, _, rfl⟩ := List.mem_map.1 (show v ∈ l.map (fun x => Value.int k x) by simpa [nums] using hv)
  rfl
def putB (sz : Int) : List Int → Int → List Int → List Int
 | [], _, acc => acc
 | b :: r, i, acc => putB sz r (i + 1) (acc.set b.toNat (mn 8 (sz - i * 8)))
theorem putB_snoc (sz b : Int) : ∀ (bs : List Int) (i : Int) (acc : List Int), putB sz (bs ++ [b]) i acc = (putB sz bs i acc).set b.toNat (mn 8 (sz - (i + bs.length) * 8))
 | [], i, acc => by simp [putB]
 | c :: r, i, acc => by
  rw [List.cons_append, putB, putB_snoc sz b r, putB]
  congr 3
  simp only [List.length_cons]
  omega
theorem putB_length (sz : Int) : ∀ (bs : List Int) (i : Int) (acc : List Int), (putB sz bs i acc).length = acc.length
 | [], _, _ => rfl
 | c :: r, i, acc => by rw [putB, putB_length sz r, List.length_set]
def longsL (l : List S86) : List Int := l.foldl (fun acc x => putB x.f2 x.f3 0 acc) (List.replicate 20 0)
theorem longsL_snoc (l : List S86) (x : S86) : longsL (l ++ [x]) = putB x.f2 x.f3 0 (longsL l) := by simp [longsL]
theorem longsL_length (l : List S86) : (longsL l).length = 20 := by
 have : ∀ (l : List S86) (acc : List Int), (l.foldl (fun acc x => putB x.f2 x.f3 0 acc) acc).length = acc.length := by
  intro l
  induction l with
  | nil => intro acc; rfl
  | cons x r ih => intro acc; rw [List.foldl_cons, ih, putB_length]
 simp [longsL, this]
def okL (x : S86) : Bool := x.f3.all (fun b => decide (0 ≤ b ∧ b < 20)) && decide (x.f3.length ≤ 100) && decide (-1000 ≤ x.f2 ∧ x.f2 ≤ 1000)
def qh.f (l0 : List S86) : Option (List Int) := if l0.all okL then some (longsL l0) else none
theorem okL_at {l : List S86} (h : l.all okL = true) (i : Int) (h0 : 0 ≤ i) (h1 : i < l.length) : okL (rd_T86 l i) = true := by
 have hl : i.toNat < l.length := by omega
 have e : rd_T86 l i = l[i.toNat] := by simp [rd_T86, List.getD_eq_getElem?_getD, List.getElem?_eq_getElem hl]
 rw [e]
 exact List.all_eq_true.1 h _ (List.getElem_mem hl)
theorem take_rd {l : List S86} (i : Int) (h0 : 0 ≤ i) (h1 : i < l.length) : l.take (i + 1).toNat = l.take i.toNat ++ [rd_T86 l i] := by
 have hl : i.toNat < l.length := by omega
 rw [show (i + 1).toNat = i.toNat + 1 by omega, List.take_succ_eq_append_getElem hl]
 simp [rd_T86, List.getD_eq_getElem?_getD, List.getElem?_eq_getElem hl]
theorem take_rdI {l : List Int} (i : Int) (h0 : 0 ≤ i) (h1 : i < l.length) : l.take (i + 1).toNat = l.take i.toNat ++ [rd l i] := by
 have hl : i.toNat < l.length := by omega
 rw [show (i + 1).toNat = i.toNat + 1 by omega, List.take_succ_eq_append_getElem hl]
 simp [rd, List.getD_eq_getElem?_getD, List.getElem?_eq_getElem hl]
theorem okB_at {x : S86} (h : okL x = true) (i : Int) (h0 : 0 ≤ i) (h1 : i < x.f3.length) : 0 ≤ rd x.f3 i ∧ rd x.f3 i < 20 := by
 have hl : i.toNat < x.f3.length := by omega
 have e : rd x.f3 i = x.f3[i.toNat] := by simp [rd, List.getD_eq_getElem?_getD, List.getElem?_eq_getElem hl]
 rw [e]
 simp only [okL, Bool.and_eq_true, List.all_eq_true, decide_eq_true_eq] at h
 exact h.1.1 _ (List.getElem_mem hl)
set_option maxHeartbeats 4000000 in
set_option maxRecDepth 100000 in
theorem qh.calls (A0 : Option Addr) (c0 : Nat) (l0 : List S86) (r : List Int) (w : World) (hr0 : Kd.C k86 w A0 l0.length l0) (hc0 : l0.length ≤ c0) (h : qh.f l0 = some r) :
  Calls Tryz.prog 156 #[.slice A0 l0.length c0] w fun e w' => e = .returned (.agg (nums .i64 r).toArray) ∧ r.length = 20 ∧ Below w.heap.size w w' := by
 unfold qh.f at h
 by_cases hok : l0.all okL = true
 case neg => rw [if_neg hok] at h; cases h
 rw [if_pos hok] at h
 injection h with h
 subst h
 have hlm : (l0.length : Int) ≤ 9223372036854775807 := by have := hr0.2.1; omega
 have HR0 := Am hr0
 have HOK := Am hok
 clear hr0 hc0 hok
 go_enter Tryz.func156, Tryz.ntmps156
 go_wp2_with fail
 go_loopw [10] (fun v10 wr => ∃ (i : Int), v10 = .int .i64 i ∧ 0 ≤ i ∧ i ≤ (l0.length : Int) ∧ Aside0 (Below w.heap.size w wr) ∧ Aside0 (w.heap.size + 1 < wr.heap.size) ∧ Aside0 (∃ z : Array Value, z.size = 20 ∧ wr.heap[w.heap.size]? = some (.cells z 192 (0, 0))) ∧ Aside0 (wr.heap[w.heap.size + 1]? = some (.cells (nums .i64 (longsL (l0.take i.toNat))).toArray 192 (0, 0)))) (fun v10 _ => l0.length - (intOf v10).toNat)
 case atStart =>
  refine ⟨0, rfl, by omega, by omega, ⟨below_alloc (below_alloc (Below.refl _ _) _) _⟩, ⟨by simp⟩, ⟨⟨_, by rfl, heap_alloc2_old w _ _⟩⟩, ⟨?_⟩⟩
  rw [heap_alloc2_new]
  rfl
 case round =>
  obtain ⟨i, rfl, hi0, hi1, HB, HS, HZ, HA⟩ := hrel
  by_cases hlt : i < (l0.length : Int)
  ·obtain ⟨ad, A3, c3, A4, c4, e1, hx0, hx1, hx2, hx3, hx4, hl3, hi3, hl4, hi4⟩ := at_T86 HR0.out i hi0 hlt
   cases e1
   have hxo := okL_at HOK.out i hi0 hlt
   generalize hX : rd_T86 l0 i = X at hx0 hx1 hx2 hx3 hx4 hl3 hi3 hl4 hi4 hxo
   replace hx0 := pcb HB.out hx0
   replace hx1 := pcb HB.out hx1
   replace hx2 := pcb HB.out hx2
   replace hx3 := pcb HB.out hx3
   replace hx4 := pcb HB.out hx4
   have HX := Am hX
   have HXO := Am hxo
   have HI3 := Am hi3
   have hb3 : (X.f3.length : Int) ≤ 100 := by simp only [okL, Bool.and_eq_true, decide_eq_true_eq] at hxo; omega
   have hb2 : -1000 ≤ X.f2 ∧ X.f2 ≤ 1000 := by simp only [okL, Bool.and_eq_true, decide_eq_true_eq] at hxo; exact hxo.2
   obtain ⟨hb2a, hb2b⟩ := hb2
   clear hX hxo hl3 hi3 hl4 hi4
   obtain ⟨wo, rfl⟩ : ∃ wo : World, wo = wr := ⟨_, rfl⟩
   go_wp2_with fail
   go_loopw [17] (fun v17 wi => ∃ (j : Int), v17 = .int .i64 j ∧ 0 ≤ j ∧ j ≤ (X.f3.length : Int) ∧ Aside0 (Below w.heap.size w wi) ∧ Aside0 (wo.heap.size < wi.heap.size) ∧ Aside0 (∃ z : Array Value, z.size = 20 ∧ wi.heap[w.heap.size]? = some (.cells z 192 (0, 0))) ∧ Aside0 (wi.heap[wo.heap.size]? = some (.cells #[.int .i64 X.f0, .int .i64 X.f1, .int .i64 X.f2, .slice A3 X.f3.length c3, .slice A4 X.f4.length c4] 86 (0, 0))) ∧ Aside0 (wi.heap[w.heap.size + 1]? = some (.cells (nums .i64 (putB X.f2 (X.f3.take j.toNat) 0 (longsL (l0.take i.toNat)))).toArray 192 (0, 0)))) (fun v17 _ => X.f3.length - (intOf v17).toNat)
   case atStart =>
    have hs := HS.out
    obtain ⟨z, hz1, hz2⟩ := HZ.out
    refine ⟨0, rfl, by omega, by omega, ⟨HB.out.alloc (by omega) _⟩, ⟨by simp⟩, ⟨⟨z, hz1, (Below.heap_alloc wo _ _ (by omega)).trans hz2⟩⟩, ⟨heap_alloc_new wo _⟩, ⟨?_⟩⟩
    rw [Below.heap_alloc wo _ _ (by omega), HA.out]
    simp [putB]
   case round =>
    obtain ⟨j, rfl, hj0, hj1, HB2, HS2, HZ2, HX2, HA2⟩ := hrel
    by_cases hjl : j < (X.f3.length : Int)
    ·obtain ⟨ad3, e3, hy⟩ := Kd.at_int HI3.out j hj0 hjl
     cases e3
     replace hy := (HB2.out.cell (World.block_lt_of_cell? w _ hy)).trans hy
     obtain ⟨hr0, hr20⟩ := okB_at HXO.out j hj0 hjl
     generalize hB : rd X.f3 j = b at hy hr0 hr20
     have hf2 : wr.cell? ⟨wo.heap.size, 2, none⟩ = some (.int .i64 X.f2) := by rw [cell_of_row _ _ _ _ _ _ HX2.out]; rfl
     have hlen : (putB X.f2 (X.f3.take j.toNat) 0 (longsL (l0.take i.toNat))).length = 20 := by rw [putB_length, longsL_length]
     have hcb : ∃ v, wr.cell? ⟨w.heap.size + 1, b.toNat, none⟩ = some v := by
      rw [cell_of_row _ _ _ _ _ _ HA2.out]
      refine ⟨_, Array.getElem?_eq_getElem (by simp [nums]; omega)⟩
     obtain ⟨vold, hcb⟩ := hcb
     have hfb : wr.frozen? ⟨w.heap.size + 1, b.toNat, none⟩ = false := frozen_of_row _ _ _ _ _ HA2.out
     have HBB := Am hB
     have HLEN := Am hlen
     clear hB hlen
     go_wp2_with fail
     go_roundw
     case rel =>
      have hs := HS.out
      have hs2 := HS2.out
      obtain ⟨z, hz1, hz2⟩ := HZ2.out
      refine ⟨j + 1, rfl, by omega, by omega, ⟨HB2.out.setCell (by simp) _⟩, ⟨by simp; omega⟩, ⟨⟨z, hz1, (heap_setCell_other wr _ _ _ (by simp)).trans hz2⟩⟩, ⟨(heap_setCell_other wr _ _ _ (by simp; omega)).trans HX2.out⟩, ⟨?_⟩⟩
      rw [heap_setCell_same _ _ _ _ _ _ HA2.out, take_rdI j hj0 hjl, putB_snoc, HBB.out]
      have e : ((X.f3.take j.toNat).length : Int) = j := by rw [List.length_take]; omega
      rw [e, Int.zero_add]
      simp [nums, List.map_set, mn]
     case measure => simp [intOf]; omega
    ·have hje : j = (X.f3.length : Int) := by omega
     subst hje
     go_wp2_with fail
     go_roundw
     case rel =>
      obtain ⟨z, hz1, hz2⟩ := HZ2.out
      refine ⟨i + 1, rfl, by omega, by omega, HB2, ⟨by have := HS2.out; have := HS.out; omega⟩, HZ2, ⟨?_⟩⟩
      rw [HA2.out, take_rd i hi0 hlt, longsL_snoc, HX.out]
      simp
     case measure => simp [intOf]; omega
  ·have hie : i = (l0.length : Int) := by omega
   obtain ⟨z, hz1, hz2⟩ := HZ.out
   have hA := HA.out
   rw [hie] at hA
   simp only [Int.toNat_natCast, List.take_length] at hA
   have HA' := Am hA
   have HZ' := Am hz2
   clear hA hz2 HA HZ hie
   have hl : (longsL l0).length = 20 := longsL_length l0
   have HL := Am hl
   have HZL := Am hz1
   clear hl hz1
   have hsz : (nums .i64 (longsL l0)).toArray.size = 20 := by simp [nums, HL.out]
   have HSZ := Am hsz
   clear hsz
   go_wp2_with (first | ((with_reducible refine gate_dst (N := 32) rfl ?_); refine wpList_load_row rfl 192 (.tmp 3) rfl (w.heap.size + 1) rfl 192 (nums .i64 (longsL l0)).toArray (0, 0) _ HA'.out Tryz.underlying192 rfl (by rw [HSZ.out]; kernel_rfl) ?_) | ((with_reducible refine gate_store (t := 192) (p := 2) rfl ?_); refine wpList_store_row rfl 192 (.tmp 2) (.tmp 32) rfl w.heap.size (nums .i64 (longsL l0)).toArray rfl rfl 192 z HZ'.out (by rw [HSZ.out]; kernel_rfl) (by rw [HSZ.out]; exact HZL.out) (nums_one _ _) ?_))
   refine bodyPost_ret (results_cell_row (fr := (0, 0)) rfl _ _ w.heap.size 192 (nums .i64 (longsL l0)).toArray _ rfl (setRow_heap wr _ z _ _ _ HZ'.out) Tryz.underlying192 rfl (by rw [HSZ.out]; kernel_rfl)) rfl ?_
   exact ⟨rfl, HL.out, below_setRow HB.out (Nat.le_refl _) _⟩
def ql.f (l0 : List Int) : Option (Int) := some (l0.length : Int)
set_option maxHeartbeats 8000000 in
set_option maxRecDepth 100000 in
theorem ql.calls (A0 : Option Addr) (c0 : Nat) (l0 : List Int) (r : Int) (w : World) (hr0 : Kd.C (Kd.int .u8) w A0 l0.length l0) (hc0 : l0.length ≤ c0) (h : ql.f l0 = some r) :
  Calls Tryz.prog 177 #[.slice A0 l0.length c0] w fun e w' => e = .returned (.int .i64 r) ∧ Drawn0 w w' := by
 have HR0 := Am hr0
 have HC0 := Am hc0
 clear hr0 hc0
 have H : (some (l0.length : Int)) = some r := h
 clear h
 obtain rfl := Option.some.inj H
 go_enter Tryz.func177, Tryz.ntmps177
 go_wp2
 go_ret
 exact ⟨by rfl, by repeat (exact Drawn0.refl _)⟩
def q1s.f (a0 : Int) (a1 : Int) : Option (Int) := if a0 < a1 then (some a0) else (some a1)
set_option maxHeartbeats 8000000 in
set_option maxRecDepth 100000 in
theorem q1s.calls (a0 : Int) (a1 : Int) (r : Int) (w : World) (h : q1s.f a0 a1 = some r) :
  Calls Tryz.prog 198 #[.int .i64 a0, .int .i64 a1] w fun e w' => e = .returned (.int .i64 r) ∧ Drawn0 w w' := by
 have H : (if a0 < a1 then (some a0) else (some a1)) = some r := h
 clear h
 by_cases c3 : a0 < a1
 ·rw [if_pos c3] at H
  have c3b0 : decide (a0 < a1) = true := decide_eq_true c3
  clear c3
  obtain rfl := Option.some.inj H
  go_enter Tryz.func198, Tryz.ntmps198
  go_wp2
  go_ret
  exact ⟨by rfl, by repeat (exact Drawn0.refl _)⟩
 ·rw [if_neg c3] at H
  have c3b0 : decide (a0 < a1) = false := decide_eq_false c3
  clear c3
  obtain rfl := Option.some.inj H
  go_enter Tryz.func198, Tryz.ntmps198
  go_wp2
  go_ret
  exact ⟨by rfl, by repeat (exact Drawn0.refl _)⟩
def sizesOK (data : List (List Int)) (want : List Int) : Bool := data.map (fun b => (b.length : Int)) == want
theorem sizesOK_false {data : List (List Int)} {want : List Int} (i : Int) (h0 : 0 ≤ i) (h1 : i < (data.length : Int)) (h : ((rd_L1 data i).length : Int) ≠ rd want i) (hl : want.length = data.length) : sizesOK data want = false := by
 have hl1 : i.toNat < data.length := by omega
 have hl2 : i.toNat < want.length := by omega
 have e1 : rd_L1 data i = data[i.toNat] := by simp [rd_L1, List.getD_eq_getElem?_getD, List.getElem?_eq_getElem hl1]
 have e2 : rd want i = want[i.toNat] := by simp [rd, List.getD_eq_getElem?_getD, List.getElem?_eq_getElem hl2]
 rw [e1, e2] at h
 rw [sizesOK, beq_eq_false_iff_ne]
 intro hc
 have := congrArg (fun l : List Int => l[i.toNat]?) hc
 simp only [List.getElem?_map, List.getElem?_eq_getElem hl1, List.getElem?_eq_getElem hl2, Option.map_some] at this
 injection this with this
 exact h this
theorem sizesOK_true {data : List (List Int)} {want : List Int} (hl : want.length = data.length) (h : ∀ j : Nat, j < data.length → ((rd_L1 data j).length : Int) = rd want j) : sizesOK data want = true := by
 rw [sizesOK, beq_iff_eq]
 apply List.ext_getElem (by simp [hl])
 intro j h1 h2
 have hj : j < data.length := by simpa using h1
 have := h j hj
 simpa [rd_L1, rd, List.getD_eq_getElem?_getD, List.getElem?_eq_getElem hj, List.getElem?_eq_getElem h2] using this
def q29.f (s0_0 : List S86) (s0_1 : List (List Int)) : Option Bool := if s0_0.all okL = true ∧ s0_1.length = 20 then some (sizesOK s0_1 (longsL s0_0)) else none
set_option maxHeartbeats 4000000 in
set_option maxRecDepth 100000 in
theorem q29.calls (g : Nat) (s0_0 : List S86) (s0_1 : List (List Int)) (r : Bool) (w0 w : World) (hI : IsS28 w0 w g s0_0 s0_1) (hB : Below w0.heap.size w0 w) (h : q29.f s0_0 s0_1 = some r) :
  Calls Tryz.prog 127 #[.pointer (some ⟨g, 0, none⟩)] w fun e w' => e = .returned (.bool r) ∧ IsS28 w0 w' g s0_0 s0_1 ∧ Below w0.heap.size w0 w' ∧ KeepBut w w' g none := by
 unfold q29.f at h
 by_cases hok : s0_0.all okL = true ∧ s0_1.length = 20
 case neg => rw [if_neg hok] at h; cases h
 rw [if_pos hok] at h
 injection h with h
 subst h
 obtain ⟨hok1, hok2⟩ := hok
 have hlt := IsS28.lt hI
 have HI := Am hI
 have HB0 := Am hB
 obtain ⟨A0, c0, A1, c1, HG, hg, ⟨hr0, hc0⟩, ⟨hr1, hc1⟩⟩ := hI
 have hlm : (s0_0.length : Int) ≤ 9223372036854775807 := by have := hr0.2.1; omega
 have HR0 := Am (Kd.C_below hr0 hB)
 have HR1 := Am (Kd.C_below hr1 hB)
 have HGG := Am HG
 have HOK := Am hok1
 have HL20 := Am hok2
 have HLT := Am hlt
 clear hB hr0 hc0 hr1 hc1 hg HG hok1 hok2 hlt
 -- what holds at the end, in any world that has come of w by growth
 have HEND : Aside0 (∀ w', Below w.heap.size w w' → IsS28 w0 w' g s0_0 s0_1 ∧ Below w0.heap.size w0 w' ∧ KeepBut w w' g none) := ⟨fun w' hb => ⟨IsS28.below HI.out hb, below_weaken HB0.out HB0.out.size hb, KeepBut.of_below hb g none⟩⟩
 go_enter Tryz.func127, Tryz.ntmps127
 go_wp2_with (((with_reducible refine gate_dst (N := 8) rfl ?_); refine Kd.R_make (Kd.int .i64) _ 2 rfl (N := 8) rfl 38 _ _ rfl (20 : Int) rfl rfl Tryz.underlying38 (.int .i64 0) 8 info2 rfl (by decide) (by omega) 0 (ok := fun _ => True) (okp := fun _ => True) rfl (fun _ hk => hk) trivial (by omega) (by decide) (Below.refl _ _) (Nat.le_refl _) ?_; intro vw w7 ho8 hb hg_ hnew_; clear hg_ hnew_; obtain ⟨gw, cap, rfl, hgb, hgl, cl, hgc⟩ := Kd.R_form ho8 (by simp); have HW7 := Am ho8; have HB7 := Am hb; have HGB := Am hgb; clear ho8 hb hgb hgl hgc cl; have hl20 : (List.replicate (20 : Int).toNat (0 : Int)).length = 20 := (by simp); rw [hl20] at HW7 ⊢; clear hl20))
 go_loopw [4] (fun v4 wr => ∃ (i : Int), v4 = .int .i64 i ∧ 0 ≤ i ∧ i ≤ (s0_0.length : Int) ∧ Aside0 (Below w.heap.size w wr) ∧ Aside0 (Kd.R (Kd.int .i64) 2 wr w.heap.size (fun _ => True) (.slice (some ⟨gw, 0, none⟩) 20 cap) (longsL (s0_0.take i.toNat)))) (fun v4 _ => s0_0.length - (intOf v4).toNat)
 case atStart => exact ⟨0, rfl, by omega, by omega, HB7, ⟨by simpa [longsL] using HW7.out⟩⟩
 case round =>
  obtain ⟨i, rfl, hi0, hi1, HB, HW⟩ := hrel
  have hG : wr.heap[g]? = some (.cells #[.slice A0 s0_0.length c0, .slice A1 s0_1.length c1] 28 (0, 0)) := (HB.out.block g HLT.out).trans HGG.out
  have hF0 := cellS28_0 hG
  have hF1 := cellS28_1 hG
  by_cases hlt : i < (s0_0.length : Int)
  ·obtain ⟨ad, A3, c3, A4, c4, e1, hx0, hx1, hx2, hx3, hx4, hl3, hi3, hl4, hi4⟩ := at_T86 HR0.out i hi0 hlt
   cases e1
   have hxo := okL_at HOK.out i hi0 hlt
   generalize hX : rd_T86 s0_0 i = X at hx0 hx1 hx2 hx3 hx4 hl3 hi3 hl4 hi4 hxo
   have HX2 := Am hx2
   have HX3 := Am hx3
   have HX := Am hX
   have HXO := Am hxo
   have HI3 := Am hi3
   have hb3 : (X.f3.length : Int) ≤ 100 := by simp only [okL, Bool.and_eq_true, decide_eq_true_eq] at hxo; omega
   have hb2 : -1000 ≤ X.f2 ∧ X.f2 ≤ 1000 := by simp only [okL, Bool.and_eq_true, decide_eq_true_eq] at hxo; exact hxo.2
   obtain ⟨hb2a, hb2b⟩ := hb2
   clear hX hxo hl3 hi3 hl4 hi4 hx0 hx1 hx2 hx3 hx4
   obtain ⟨wo, rfl⟩ : ∃ wo : World, wo = wr := ⟨_, rfl⟩
   go_wp2_with fail
   go_loopw [6] (fun v6 wi => ∃ (j : Int), v6 = .int .i64 j ∧ 0 ≤ j ∧ j ≤ (X.f3.length : Int) ∧ Aside0 (Below w.heap.size w wi) ∧ Aside0 (Kd.R (Kd.int .i64) 2 wi w.heap.size (fun _ => True) (.slice (some ⟨gw, 0, none⟩) 20 cap) (putB X.f2 (X.f3.take j.toNat) 0 (longsL (s0_0.take i.toNat))))) (fun v6 _ => X.f3.length - (intOf v6).toNat)
   case atStart => exact ⟨0, rfl, by omega, by omega, HB, ⟨by simpa [putB] using HW.out⟩⟩
   case round =>
    obtain ⟨j, rfl, hj0, hj1, HB2, HW2⟩ := hrel
    have hX3 := (HB2.out.cell (World.block_lt_of_cell? w _ HX3.out)).trans HX3.out
    have hX2 := (HB2.out.cell (World.block_lt_of_cell? w _ HX2.out)).trans HX2.out
    by_cases hjl : j < (X.f3.length : Int)
    ·obtain ⟨ad3, e3, hy⟩ := Kd.at_int HI3.out j hj0 hjl
     cases e3
     have hyw := hy
     replace hy := (HB2.out.cell (World.block_lt_of_cell? w _ hy)).trans hy
     obtain ⟨hr0, hr20⟩ := okB_at HXO.out j hj0 hjl
     generalize hBB : rd X.f3 j = b at hy hyw hr0 hr20
     have HBB := Am hBB
     clear hBB
     have hs1 : IntKind.i64.wrap (j * 8) = j * 8 := (i64_w _).trans (IntWalk.wrap64_in _ ⟨by omega, by omega⟩)
     have hs2 : IntKind.i64.wrap (X.f2 - j * 8) = X.f2 - j * 8 := (i64_w _).trans (IntWalk.wrap64_in _ ⟨by omega, by omega⟩)
     have hmn : q1s.f 8 (X.f2 - j * 8) = some (mn 8 (X.f2 - j * 8)) := by unfold q1s.f mn; split <;> split <;> first | rfl | (congr 1; omega)
     have HMN := Am hmn
     clear hmn
     have hlen : (putB X.f2 (X.f3.take j.toNat) 0 (longsL (s0_0.take i.toNat))).length = 20 := by rw [putB_length, longsL_length]
     obtain ⟨hcw, hfw⟩ := Kd.R_celln 0 HW2.out b hr0 (by omega)
     have hgb := HGB.out
     have hn3 : (⟨(ad.add (i.toNat * 5)).block, (ad.add (i.toNat * 5)).off + 3, none⟩ : Addr).block ≠ gw := by have := World.block_lt_of_cell? w _ HX3.out; omega
     have hn2 : (⟨(ad.add (i.toNat * 5)).block, (ad.add (i.toNat * 5)).off + 2, none⟩ : Addr).block ≠ gw := by have := World.block_lt_of_cell? w _ HX2.out; omega
     have hn1 : (ad3.add j.toNat).block ≠ gw := by have := World.block_lt_of_cell? w _ hyw; omega
     go_wp2_with fail
     go_region_held3 (fun w' => w'.cell? ⟨(ad.add (i.toNat * 5)).block, (ad.add (i.toNat * 5)).off + 3, none⟩ = some (.slice (some ad3) X.f3.length c3) ∧ w'.cell? ⟨(ad.add (i.toNat * 5)).block, (ad.add (i.toNat * 5)).off + 2, none⟩ = some (.int .i64 X.f2) ∧ w'.cell? (ad3.add j.toNat) = some (.int .i64 b)) (first | (simp [*]; done) | (refine ⟨?_, ?_, ?_⟩ <;> (refine (cell_far (p := ⟨gw, b.toNat, none⟩) (by assumption) _).trans ?_) <;> simp [*]))
      ((go_at_call 198; refine (q1s.calls 8 (X.f2 - j * 8) _ _ HMN.out).mono ?_; rintro e w' ⟨rfl, nd, rfl⟩))
     clear hs1 hs2 hX3 hX2 hy hyw hn1 hn2 hn3 hcw hfw
     go_wp2_with fail
     go_roundw
     case rel =>
      refine ⟨j + 1, rfl, by omega, by omega, ⟨below_set (pw_below_drewN HB2.out _) HGB.out⟩, ⟨?_⟩⟩
      have hp := (Kd.R_putg (Kd.R_drewN HW2.out (1 + nd)) b (mn 8 (X.f2 - j * 8))).1
      rw [take_rdI j hj0 hjl, putB_snoc, HBB.out]
      have e : ((X.f3.take j.toNat).length : Int) = j := by rw [List.length_take]; omega
      rw [e, Int.zero_add]
      exact hp
     case measure => simp [intOf]; omega
    ·have hje : ¬ j < (X.f3.length : Int) := hjl
     go_wp2_with fail
     go_roundw
     case rel =>
      have hj : j = (X.f3.length : Int) := by omega
      refine ⟨i + 1, rfl, by omega, by omega, HB2, ⟨?_⟩⟩
      have hw := HW2.out
      rw [hj, Int.toNat_natCast, List.take_length] at hw
      rw [take_rd i hi0 hlt, longsL_snoc, HX.out]
      exact hw
     case measure => simp [intOf]; omega
  ·have hie : i = (s0_0.length : Int) := by omega
   have hW := HW.out
   rw [hie, Int.toNat_natCast, List.take_length] at hW
   have HWL := Am hW
   have HBB := HB
   obtain ⟨wo, rfl⟩ : ∃ wo : World, wo = wr := ⟨_, rfl⟩
   clear hW HW hie HB
   have hl : (longsL s0_0).length = 20 := longsL_length s0_0
   have HLL := Am hl
   clear hl
   go_wp2_with fail
   go_loopw [7] (fun v7 wi => ∃ (b : Int), v7 = .int .i64 b ∧ 0 ≤ b ∧ b ≤ (20 : Int) ∧ Aside0 (Below w.heap.size w wi) ∧ Aside0 (Kd.R (Kd.int .i64) 2 wi w.heap.size (fun _ => True) (.slice (some ⟨gw, 0, none⟩) 20 cap) (longsL s0_0)) ∧ Aside0 (∀ k : Nat, (k : Int) < b → ((rd_L1 s0_1 k).length : Int) = rd (longsL s0_0) k)) (fun v7 _ => 20 - (intOf v7).toNat)
   case atStart => exact ⟨0, rfl, by omega, by omega, HBB, HWL, ⟨fun k hk => by omega⟩⟩
   case round =>
    obtain ⟨b, rfl, hb0, hb1, HB3, HW3, HA⟩ := hrel
    have hG : wr.heap[g]? = some (.cells #[.slice A0 s0_0.length c0, .slice A1 s0_1.length c1] 28 (0, 0)) := (HB3.out.block g HLT.out).trans HGG.out
    have hF0 := cellS28_0 hG
    have hF1 := cellS28_1 hG
    have hlen := HL20.out
    by_cases hbl : b < (20 : Int)
    ·obtain ⟨ad5, A5, c5, e5, hz, hl5, hi5⟩ := at_L1 HR1.out b hb0 (by omega)
     cases e5
     replace hz := (HB3.out.cell (World.block_lt_of_cell? w _ hz)).trans hz
     obtain ⟨hcw, hfw⟩ := Kd.R_celln 0 HW3.out b hb0 (by have := HLL.out; omega)
     generalize hD : rd_L1 s0_1 b = D at hz hl5 hi5
     have HD := Am hD
     clear hl5 hi5 hD
     rw [hlen] at hF1
     have hlz : (longsL s0_0).length = s0_1.length := by rw [HLL.out, HL20.out]
     have HLZ := Am hlz
     clear hlz
     change _ = some (Value.int .i64 (rd (longsL s0_0) b)) at hcw
     generalize hE : rd (longsL s0_0) b = E at hcw
     have HE := Am hE
     clear hE
     by_cases hde : (D.length : Int) = E
     ·have hdb : ((D.length : Int) != E) = false := by simp [hde]
      go_wp2_with fail
      go_quiet (fail)
      go_wp2_with fail
      go_roundw
      case rel =>
       refine ⟨b + 1, rfl, by omega, by omega, ⟨pw_below_drewN HB3.out _⟩, ⟨Kd.R_drewN HW3.out _⟩, ⟨fun k hk => ?_⟩⟩
       by_cases hkb : (k : Int) = b
       ·rw [hkb, HD.out, HE.out]; exact hde
       ·exact HA.out k (by omega)
      case measure => simp [intOf]; omega
     ·have hdb : ((D.length : Int) != E) = true := by simpa using hde
      have hno := sizesOK_false b hb0 (by omega) (show ((rd_L1 s0_1 b).length : Int) ≠ rd (longsL s0_0) b by rw [HD.out, HE.out]; exact hde) HLZ.out
      have HNO := Am hno
      clear hno hde
      go_wp2_with fail
      go_quiet (fail)
      go_wp2_with fail
      go_ret
      rw [HNO.out]
      exact ⟨rfl, HEND.out _ (pw_below_drewN HB3.out _)⟩
    ·have hb20 : b = 20 := by omega
     have hyes := sizesOK_true (data := s0_1) (want := longsL s0_0) (by rw [HLL.out, HL20.out]) (fun k hk => HA.out k (by omega))
     have HYES := Am hyes
     clear hyes
     rw [hlen] at hF1
     go_wp2_with fail
     go_ret
     rw [HYES.out]
     exact ⟨rfl, HEND.out _ HB3.out⟩
def dfCode (b : Bool) : Int := if b = true then 0 else 1
def q7.f (l0_0 : List S86) (l0_1 : List (List Int)) : Option Int := if l0_0.all okL = true ∧ l0_1.length = 20 then some (dfCode (sizesOK l0_1 (longsL l0_0))) else none
set_option maxHeartbeats 4000000 in
set_option maxRecDepth 100000 in
theorem q7.calls (A0_0 : Option Addr) (c0_0 : Nat) (l0_0 : List S86) (A0_1 : Option Addr) (c0_1 : Nat) (l0_1 : List (List Int)) (r : Int) (w : World) (hr0_0 : Kd.C k86 w A0_0 l0_0.length l0_0) (hc0_0 : l0_0.length ≤ c0_0) (hr0_1 : Kd.C (Kd.slice 5 (Kd.int .u8)) w A0_1 l0_1.length l0_1) (hc0_1 : l0_1.length ≤ c0_1) (h : q7.f l0_0 l0_1 = some r) :
  Calls Tryz.prog 106 #[.agg #[.slice A0_0 l0_0.length c0_0, .slice A0_1 l0_1.length c0_1]] w fun e w' => e = .returned (.int .i64 r) ∧ Below w.heap.size w w' := by
 unfold q7.f at h
 by_cases hok : l0_0.all okL = true ∧ l0_1.length = 20
 case neg => rw [if_neg hok] at h; cases h
 rw [if_pos hok] at h
 injection h with h
 subst h
 obtain ⟨hok1, hok2⟩ := hok
 have HR0 := Am hr0_0
 have HC0 := Am hc0_0
 have HR1 := Am hr0_1
 have HL20 := Am hok2
 have hlf : qh.f l0_0 = some (longsL l0_0) := by rw [qh.f, if_pos hok1]
 have HLF := Am hlf
 have hlz : (longsL l0_0).length = l0_1.length := by rw [longsL_length, hok2]
 have HLZ := Am hlz
 clear hr0_0 hc0_0 hr0_1 hc0_1 hok1 hok2 hlf hlz
 go_enter Tryz.func106, Tryz.ntmps106
 go_wp2_with fail
 refine (qh.calls A0_0 c0_0 l0_0 _ _ (Kd.C_alloc HR0.out _) HC0.out HLF.out).mono ?_
 rintro e w1 ⟨rfl, hl, hb⟩
 have HB1 : Aside0 (Below w.heap.size w w1) := ⟨below_step (below_alloc (Below.refl _ _) _) hb⟩
 have HX1 : Aside0 (w1.heap[w.heap.size]? = some (.cells #[.slice A0_0 l0_0.length c0_0, .slice A0_1 l0_1.length c0_1] 28 (0, 0))) := ⟨(hb.block _ (by simp)).trans (heap_alloc_new w _)⟩
 clear hb
 go_wp2_with fail
 go_loopw [8] (fun v8 wi => ∃ (b : Int), v8 = .int .i64 b ∧ 0 ≤ b ∧ b ≤ (20 : Int) ∧ Aside0 (Below w.heap.size w wi) ∧ Aside0 (wi.heap[w.heap.size]? = some (.cells #[.slice A0_0 l0_0.length c0_0, .slice A0_1 l0_1.length c0_1] 28 (0, 0))) ∧ Aside0 (∀ k : Nat, (k : Int) < b → ((rd_L1 l0_1 k).length : Int) = rd (longsL l0_0) k)) (fun v8 _ => 20 - (intOf v8).toNat)
 case atStart => exact ⟨0, rfl, by omega, by omega, HB1, HX1, ⟨fun k hk => by omega⟩⟩
 case round =>
  obtain ⟨b, rfl, hb0, hb1, HB, HX, HA⟩ := hrel
  have hlen : b ≤ (20 : Int) → b < (20 : Int) → b < (l0_1.length : Int) := fun _ h => by have := HL20.out; omega
  replace hlen := hlen hb1
  by_cases hbl : b < (20 : Int)
  ·obtain ⟨ad5, A5, c5, e5, hz, hl5, hi5⟩ := at_L1 HR1.out b hb0 (hlen hbl)
   cases e5
   replace hz := (HB.out.cell (World.block_lt_of_cell? w _ hz)).trans hz
   have hF1 : wr.cell? ⟨w.heap.size, 1, none⟩ = some (.slice (some ad5) l0_1.length c0_1) := (cell_of_row _ _ 1 _ _ _ HX.out).trans rfl
   generalize hD : rd_L1 l0_1 b = D at hz hl5 hi5
   have HD := Am hD
   have HI5 := Am (Kd.C_below hi5 HB.out)
   have HL5 := Am hl5
   clear hl5 hi5 hD
   replace hlen := hlen hbl
   generalize hE : rd (longsL l0_0) b = E
   have HE := Am hE
   have hidx : (nums .i64 (longsL l0_0))[b.toNat]? = some (.int .i64 E) := by
    have hlb : b.toNat < (longsL l0_0).length := by rw [HLZ.out]; omega
    rw [← hE]
    simp [nums, rd, List.getD_eq_getElem?_getD, List.getElem?_eq_getElem hlb]
   have hix : ∀ W : World, (Instr.index 192 (.agg (nums .i64 (longsL l0_0)).toArray) (.int .i64 b)).run Tryz.prog W = .ok (.int .i64 E) W := by
    intro W
    have hb20 : b < ((20 : Nat) : Int) := by omega
    have hp : 0 ≤ b ∧ b < ((20 : Nat) : Int) := ⟨hb0, hb20⟩
    simp only [Instr.index, asIntOf, run_underlying Tryz.underlying192, go_sem]
    simp [hp, hbl, Tryz.sizeOf2, Tryz.isAgg2, hidx, go_sem]
   clear hE hidx
   go_wp2_with fail
   refine (ql.calls A5 c5 D (D.length : Int) _ (Kd.C_below HI5.out (by repeat (exact Below.refl _ _))) HL5.out rfl).mono ?_
   rintro e w' ⟨rfl, nd, rfl⟩
   clear hix
   by_cases hde : (D.length : Int) = E
   ·have hdb : ((D.length : Int) != E) = false := by simp [hde]
    have hdb2 : (D.length : Int) = E := hde
    go_wp2_with fail
    go_roundw
    case rel =>
     refine ⟨b + 1, rfl, by omega, by omega, ⟨pw_below_drewN HB.out _⟩, HX, ⟨fun k hk => ?_⟩⟩
     by_cases hkb : (k : Int) = b
     ·rw [hkb, HD.out, HE.out]; exact hde
     ·exact HA.out k (by omega)
    case measure => simp [intOf]; omega
   ·have hdb : ((D.length : Int) != E) = true := by simpa using hde
    have hno := sizesOK_false b hb0 (by have := HL20.out; omega) (show ((rd_L1 l0_1 b).length : Int) ≠ rd (longsL l0_0) b by rw [HD.out, HE.out]; exact hde) HLZ.out
    have HNO := Am hno
    clear hno
    go_wp2_with fail
    go_ret
    rw [HNO.out]
    exact ⟨rfl, pw_below_drewN HB.out _⟩
  ·clear hlen
   have hb20 : b = 20 := by omega
   have hyes := sizesOK_true (data := l0_1) (want := longsL l0_0) HLZ.out (fun k hk => HA.out k (by have := HL20.out; omega))
   have HYES := Am hyes
   clear hyes
   go_wp2_with fail
   go_ret
   rw [HYES.out]
   exact ⟨rfl, HB.out⟩
end Go.Proofs.YtafhjhdohclchaaGreatDoor.G
namespace Go.Proofs.YtafhjhdohclchaaGreatDoor.G
open Go.RowKit Go.Proofs.YtafhjhdohclchaaGreatDoorW.PrintWords Go.Proofs.YtafhjhdohclchaaGreatDoorW.PrintLast Go.Proofs.YtafhjhdohclchaaGreatDoorW.PrintMore
attribute [local go_sem] min2_int min_two
attribute [local go_sem high] str_leq
attribute [local go_sem] binOp_string_geq
mutual
def qg.l0 : Nat → Int → Int → List (S86) → Int → Int → Option (Int)
 | 0, _, _, _, _, _ => none
 | k + 1, x1, x5, x10, x11, x12 => if x12 < x11 then (if 0 ≤ x12 then (if x12 < (x10.length : Int) then (qg.l1 k x1 x5 x10 x11 x12 ((rd_T86 x10 x12).f4) (((rd_T86 x10 x12).f4).length : Int) 0) else (none)) else (none)) else (some x5)
def qg.l1 : Nat → Int → Int → List (S86) → Int → Int → List (S143) → Int → Int → Option (Int)
 | 0, _, _, _, _, _, _, _, _ => none
 | k + 1, x1, x5, x10, x11, x12, x17, x18, x19 => if x19 < x18 then (if 0 ≤ x19 then (if x19 < (x17.length : Int) then (if ((rd_T143 x17 x19).f1) = x1 then (qg.l1 k x1 (wrap64 (x5 + 1)) x10 x11 x12 x17 x18 (wrap64 (x19 + 1))) else (qg.l1 k x1 x5 x10 x11 x12 x17 x18 (wrap64 (x19 + 1)))) else (none)) else (none)) else (qg.l0 k x1 x5 x10 x11 (wrap64 (x12 + 1)))
end
def qg.f (k : Nat) (l0 : List (S86)) (a1 : Int) : Option (Int) := qg.l0 k a1 0 l0 (l0.length : Int) 0
theorem qg.mono_l : ∀ k, (∀ y0 y1 y2 y3 y4, LeO (qg.l0 k y0 y1 y2 y3 y4) (qg.l0 (k + 1) y0 y1 y2 y3 y4)) ∧ (∀ y0 y1 y2 y3 y4 y5 y6 y7, LeO (qg.l1 k y0 y1 y2 y3 y4 y5 y6 y7) (qg.l1 (k + 1) y0 y1 y2 y3 y4 y5 y6 y7))
 | 0 => ⟨fun _ _ _ _ _ r h => by simp [qg.l0] at h, fun _ _ _ _ _ _ _ _ r h => by simp [qg.l1] at h⟩
 | k + 1 => by
  obtain ⟨ih0, ih1⟩ := qg.mono_l k
  refine ⟨?_, ?_⟩
  ·intro y0 y1 y2 y3 y4
   unfold qg.l0
   repeat' first | (with_reducible exact ih1 _ _ _ _ _ _ _ _) | (with_reducible exact LeO.refl _) | (with_reducible refine LeO.ite ?_ ?_)
  ·intro y0 y1 y2 y3 y4 y5 y6 y7
   unfold qg.l1
   repeat' first | (with_reducible exact ih0 _ _ _ _ _) | (with_reducible exact ih1 _ _ _ _ _ _ _ _) | (with_reducible exact LeO.refl _) | (with_reducible refine LeO.ite ?_ ?_)
theorem qg.mono : ∀ a0 a1 k, LeO (qg.f k a0 a1) (qg.f (k + 1) a0 a1) := by
 intro a0 a1 k
 obtain ⟨ih0, ih1⟩ := qg.mono_l k
 unfold qg.f
 repeat' (with_reducible exact ih0 _ _ _ _ _)
set_option maxHeartbeats 8000000 in
set_option maxRecDepth 100000 in
theorem qg.calls (k : Nat) (A0 : Option Addr) (c0 : Nat) (l0 : List (S86)) (a1 : Int) (r : Int) (w : World) (hr0 : Kd.C k86 w A0 l0.length l0) (hc0 : l0.length ≤ c0) (h : qg.f k l0 a1 = some r) :
  Calls Tryz.prog 176 #[.slice A0 l0.length c0, .int .i64 a1] w fun e w' => e = .returned (.int .i64 r) ∧ Below w.heap.size w w' := by
 have hu86 := Tryz.underlying86
 have hu143 := Tryz.underlying143
 have HR0 := Am hr0
 have HC0 := Am hc0
 clear hr0 hc0
 have HB := Am (Below.refl w.heap.size w)
 have H : (qg.l0 k a1 0 l0 (l0.length : Int) 0) = some r := h
 clear h
 have H' := Am H
 clear H
 go_enter Tryz.func176, Tryz.ntmps176
 go_wp2
 go_loopg [5, 12] k (fun kq v5 v12 w' => ∃ (x5_1 : Int) (x12_1 : Int), v5 = .int .i64 x5_1 ∧ v12 = .int .i64 x12_1 ∧ Aside0 (qg.l0 kq a1 x5_1 l0 (l0.length : Int) x12_1 = some r) ∧ Aside0 (kq ≤ k) ∧ Aside0 (Below w.heap.size w w'))
 case atStart => exact ⟨(0), (0), (by rfl), (by rfl), H', ⟨Nat.le_refl _⟩, ⟨HB.out⟩⟩
 case round =>
  clear H'
  obtain ⟨x5_1, x12_1, rfl, rfl, HA, HK1, HB⟩ := hrel
  cases gk with
  | zero => exact absurd HA.out (by simp [qg.l0])
  | succ k1 =>
   have H := HA.out
   clear HA
   simp only [qg.l0] at H
   by_cases c3 : x12_1 < (l0.length : Int)
   ·rw [if_pos c3] at H
    have c3b0 : decide (x12_1 < (l0.length : Int)) = true := decide_eq_true c3
    clear c3
    replace H := ino H
    obtain ⟨c4, H⟩ := H
    have c4b0 : decide (0 ≤ x12_1) = true := decide_eq_true c4
    clear c4
    replace H := ino H
    obtain ⟨c5, H⟩ := H
    have c5b0 : decide (x12_1 < (l0.length : Int)) = true := decide_eq_true c5
    clear c5
    have H' := Am H
    clear H
    have p317 : 0 ≤ (x12_1 : Int) := od (by assumption)
    have q317 : x12_1 < (l0.length : Int) := od (by assumption)
    obtain ⟨ad317, A317_3, c317_3, A317_4, c317_4, e317, hx317_0, hx317_1, hx317_2, hx317_3, hx317_4, hl317_3, hi317_3, hl317_4, hi317_4⟩ := at_T86 HR0.out x12_1 p317 q317
    cases e317
    replace hx317_0 := pcb HB.out hx317_0
    replace hx317_1 := pcb HB.out hx317_1
    replace hx317_2 := pcb HB.out hx317_2
    replace hx317_3 := pcb HB.out hx317_3
    replace hx317_4 := pcb HB.out hx317_4
    have HR317_3 := Am hi317_3
    have HC317_3 := Am hl317_3
    clear hi317_3 hl317_3
    have HR317_4 := Am hi317_4
    have HC317_4 := Am hl317_4
    clear hi317_4 hl317_4
    replace p317 := eq_true p317
    replace q317 := eq_true q317
    go_wp2_with (((with_reducible refine gate_dst (N := 7) rfl ?_); refine box_event ?hg (N := 7) ?hd (cs := #[.int .i64 0, .int .i64 0, .int .i64 0, .slice none 0 0, .slice none 0 0]) (t := 86) ?hr ?_; (case hd => rfl); (case hg => rfl); (case hr => (go_simp; done)); intro gb318 hg w6 hbox hb; have BK318 := Am hbox; have GW318 := Am ((nge hg HB.out)); have GE318 := Am ((nge hg HB.out)); replace HB := Am (below_step HB.out hb); clear hb hbox hg; obtain ⟨hcz7_0, hcz7_1, hcz7_2, hcz7_3, hcz7_4, hfz7_0, hfz7_1, hfz7_2, hfz7_3, hfz7_4⟩ := cb5 BK318.out))
    go_loopg [5, 19] k1 (fun kq v5 v19 w' => ∃ (x5_2 : Int) (x19_2 : Int), v5 = .int .i64 x5_2 ∧ v19 = .int .i64 x19_2 ∧ Aside0 (qg.l1 kq a1 x5_2 l0 (l0.length : Int) x12_1 ((rd_T86 l0 x12_1).f4) (((rd_T86 l0 x12_1).f4).length : Int) x19_2 = some r) ∧ Aside0 (kq ≤ k1) ∧ Aside0 (w'.heap[gb318]? = some (.cells #[.int .i64 ((rd_T86 l0 x12_1).f0), .int .i64 ((rd_T86 l0 x12_1).f1), .int .i64 ((rd_T86 l0 x12_1).f2), (.slice A317_3 ((rd_T86 l0 x12_1).f3).length c317_3), (.slice A317_4 ((rd_T86 l0 x12_1).f4).length c317_4)] 86 (0, 0))) ∧ Aside0 (Below w.heap.size w w'))
    case atStart => exact ⟨(x5_1), (0), (by rfl), (by rfl), H', ⟨Nat.le_refl _⟩, ⟨by refine blk_put (cs := #[.int .i64 ((rd_T86 l0 x12_1).f0), .int .i64 ((rd_T86 l0 x12_1).f1), .int .i64 ((rd_T86 l0 x12_1).f2), .slice A317_3 ((rd_T86 l0 x12_1).f3).length c317_3, .slice none 0 0]) ?_ 4 _ rfl; refine blk_put (cs := #[.int .i64 ((rd_T86 l0 x12_1).f0), .int .i64 ((rd_T86 l0 x12_1).f1), .int .i64 ((rd_T86 l0 x12_1).f2), .slice none 0 0, .slice none 0 0]) ?_ 3 _ rfl; refine blk_put (cs := #[.int .i64 ((rd_T86 l0 x12_1).f0), .int .i64 ((rd_T86 l0 x12_1).f1), .int .i64 0, .slice none 0 0, .slice none 0 0]) ?_ 2 _ rfl; refine blk_put (cs := #[.int .i64 ((rd_T86 l0 x12_1).f0), .int .i64 0, .int .i64 0, .slice none 0 0, .slice none 0 0]) ?_ 1 _ rfl; refine blk_put (cs := #[.int .i64 0, .int .i64 0, .int .i64 0, .slice none 0 0, .slice none 0 0]) ?_ 0 _ rfl; exact BK318.out⟩, ⟨by repeat ((with_reducible first | exact HB.out | refine below_set ?_ GE318.out))⟩⟩
    case round =>
     clear H'
     try clear c3b0
     try clear c4b0
     try clear c5b0
     try clear hcz7_0
     try clear hcz7_1
     try clear hcz7_2
     try clear hcz7_3
     try clear hcz7_4
     try clear hfz7_0
     try clear hfz7_1
     try clear hfz7_2
     try clear hfz7_3
     try clear hfz7_4
     try clear hx317_0
     try clear hx317_1
     try clear hx317_2
     try clear hx317_3
     try clear hx317_4
     try clear p317
     try clear q317
     obtain ⟨x5_2, x19_2, rfl, rfl, HA, HK2, BK318, HB⟩ := hrel
     cases gk with
     | zero => exact absurd HA.out (by simp [qg.l1])
     | succ k2 =>
      have H := HA.out
      clear HA
      simp only [qg.l1] at H
      by_cases c8 : x19_2 < (((rd_T86 l0 x12_1).f4).length : Int)
      ·rw [if_pos c8] at H
       have c8b0 : decide (x19_2 < (((rd_T86 l0 x12_1).f4).length : Int)) = true := decide_eq_true c8
       clear c8
       replace H := ino H
       obtain ⟨c9, H⟩ := H
       have c9b0 : decide (0 ≤ x19_2) = true := decide_eq_true c9
       clear c9
       replace H := ino H
       obtain ⟨c10, H⟩ := H
       have c10b0 : decide (x19_2 < (((rd_T86 l0 x12_1).f4).length : Int)) = true := decide_eq_true c10
       clear c10
       by_cases c11 : ((rd_T143 ((rd_T86 l0 x12_1).f4) x19_2).f1) = a1
       ·rw [if_pos c11] at H
        have c11b0 : (((rd_T143 ((rd_T86 l0 x12_1).f4) x19_2).f1) == a1) = true := beq_iff_eq.mpr c11
        have c11b1 : (((rd_T143 ((rd_T86 l0 x12_1).f4) x19_2).f1) != a1) = false := bne_eq_false_iff_eq.mpr c11
        clear c11
        have H' := Am H
        clear H
        have p319 : 0 ≤ (x19_2 : Int) := od (by assumption)
        have q319 : x19_2 < (((rd_T86 l0 x12_1).f4).length : Int) := od (by assumption)
        obtain ⟨ad319, e319, hx319_0, hx319_1⟩ := at_T143 HR317_4.out x19_2 p319 q319
        cases e319
        replace hx319_0 := pcb HB.out hx319_0
        replace hx319_1 := pcb HB.out hx319_1
        replace p319 := eq_true p319
        replace q319 := eq_true q319
        go_wp2_with (((with_reducible refine gate_dst (N := 9) rfl ?_); refine box_event ?hg (N := 9) ?hd (cs := #[.string (⟨#[]⟩ : ByteArray), .int .i64 0]) (t := 143) ?hr ?_; (case hd => rfl); (case hg => rfl); (case hr => (go_simp; done)); intro gb320 hg w12 hbox hb; have BK320 := Am hbox; have GW320 := Am ((nge hg HB.out)); have GE320 := Am ((nge hg HB.out)); replace HB := Am (below_step HB.out hb); have NB318_320 := Am ((nlt hg (g := gb318) (o := .cells #[.int .i64 ((rd_T86 l0 x12_1).f0), .int .i64 ((rd_T86 l0 x12_1).f1), .int .i64 ((rd_T86 l0 x12_1).f2), .slice A317_3 ((rd_T86 l0 x12_1).f3).length c317_3, .slice (some ad319) ((rd_T86 l0 x12_1).f4).length c317_4] 86 (0, 0)) BK318.out)); have NB320_318 := Am ((ngt hg (g := gb318) (o := .cells #[.int .i64 ((rd_T86 l0 x12_1).f0), .int .i64 ((rd_T86 l0 x12_1).f1), .int .i64 ((rd_T86 l0 x12_1).f2), .slice A317_3 ((rd_T86 l0 x12_1).f3).length c317_3, .slice (some ad319) ((rd_T86 l0 x12_1).f4).length c317_4] 86 (0, 0)) BK318.out)); replace BK318 := Am (blk_below BK318.out hb); clear hb hbox hg; have hnb13 := NB320_318.out; have hnc13 := NB318_320.out; obtain ⟨hcz14_0, hcz14_1, hfz14_0, hfz14_1⟩ := cb2 BK320.out))
        go_roundg k2
        case measure => have := HK1.out; have := HK2.out; omega
        case rel => exact ⟨(wrap64 (x5_2 + 1)), (wrap64 (x19_2 + 1)), (by rfl), (by rfl), H', ⟨by have := HK1.out; have := HK2.out; omega⟩, ⟨by refine blk_far ?_ NB318_320.out _; refine blk_far ?_ NB318_320.out _; exact BK318.out⟩, ⟨by repeat ((with_reducible first | exact HB.out | refine below_set ?_ GE320.out))⟩⟩
       ·rw [if_neg c11] at H
        have c11b0 : (((rd_T143 ((rd_T86 l0 x12_1).f4) x19_2).f1) == a1) = false := beq_eq_false_iff_ne.mpr c11
        have c11b1 : (((rd_T143 ((rd_T86 l0 x12_1).f4) x19_2).f1) != a1) = true := bne_iff_ne.mpr c11
        have H' := Am H
        clear H
        have p319 : 0 ≤ (x19_2 : Int) := od (by assumption)
        have q319 : x19_2 < (((rd_T86 l0 x12_1).f4).length : Int) := od (by assumption)
        obtain ⟨ad319, e319, hx319_0, hx319_1⟩ := at_T143 HR317_4.out x19_2 p319 q319
        cases e319
        replace hx319_0 := pcb HB.out hx319_0
        replace hx319_1 := pcb HB.out hx319_1
        replace p319 := eq_true p319
        replace q319 := eq_true q319
        go_wp2_with (((with_reducible refine gate_dst (N := 9) rfl ?_); refine box_event ?hg (N := 9) ?hd (cs := #[.string (⟨#[]⟩ : ByteArray), .int .i64 0]) (t := 143) ?hr ?_; (case hd => rfl); (case hg => rfl); (case hr => (go_simp; done)); intro gb320 hg w15 hbox hb; have BK320 := Am hbox; have GW320 := Am ((nge hg HB.out)); have GE320 := Am ((nge hg HB.out)); replace HB := Am (below_step HB.out hb); have NB318_320 := Am ((nlt hg (g := gb318) (o := .cells #[.int .i64 ((rd_T86 l0 x12_1).f0), .int .i64 ((rd_T86 l0 x12_1).f1), .int .i64 ((rd_T86 l0 x12_1).f2), .slice A317_3 ((rd_T86 l0 x12_1).f3).length c317_3, .slice (some ad319) ((rd_T86 l0 x12_1).f4).length c317_4] 86 (0, 0)) BK318.out)); have NB320_318 := Am ((ngt hg (g := gb318) (o := .cells #[.int .i64 ((rd_T86 l0 x12_1).f0), .int .i64 ((rd_T86 l0 x12_1).f1), .int .i64 ((rd_T86 l0 x12_1).f2), .slice A317_3 ((rd_T86 l0 x12_1).f3).length c317_3, .slice (some ad319) ((rd_T86 l0 x12_1).f4).length c317_4] 86 (0, 0)) BK318.out)); replace BK318 := Am (blk_below BK318.out hb); clear hb hbox hg; have hnb16 := NB320_318.out; have hnc16 := NB318_320.out; obtain ⟨hcz17_0, hcz17_1, hfz17_0, hfz17_1⟩ := cb2 BK320.out))
        go_roundg k2
        case measure => have := HK1.out; have := HK2.out; omega
        case rel => exact ⟨(x5_2), (wrap64 (x19_2 + 1)), (by rfl), (by rfl), H', ⟨by have := HK1.out; have := HK2.out; omega⟩, ⟨by refine blk_far ?_ NB318_320.out _; refine blk_far ?_ NB318_320.out _; exact BK318.out⟩, ⟨by repeat ((with_reducible first | exact HB.out | refine below_set ?_ GE320.out))⟩⟩
      ·rw [if_neg c8] at H
       have c8b0 : decide (x19_2 < (((rd_T86 l0 x12_1).f4).length : Int)) = false := decide_eq_false c8
       clear c8
       have H' := Am H
       clear H
       go_wp2
       go_roundg k2
       case measure => have := HK1.out; have := HK2.out; omega
       case rel => exact ⟨(x5_2), (wrap64 (x12_1 + 1)), (by rfl), (by rfl), H', ⟨by have := HK1.out; have := HK2.out; omega⟩, ⟨HB.out⟩⟩
   ·rw [if_neg c3] at H
    have c3b0 : decide (x12_1 < (l0.length : Int)) = false := decide_eq_false c3
    clear c3
    obtain rfl := Option.some.inj H
    go_wp2
    go_ret
    exact ⟨by rfl, HB.out⟩
end Go.Proofs.YtafhjhdohclchaaGreatDoor.G
