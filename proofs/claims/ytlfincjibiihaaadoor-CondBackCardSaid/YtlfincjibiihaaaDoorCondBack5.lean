/- Part 5 of the proof of CondBack: the framework of abstract values and the walks over the functions that the law reaches. -/
import Derived.WalkKit
import Derived.RowKitTokens
import Derived.Lib.AppendZeros
import Derived.Lib.Hide
import Derived.Test.YtlfincjibiihaaaDoorCondBackShelfLen64
import Derived.Shelf.SortM.Plain
import Derived.Shelf.SortM.SortNone
import Derived.Shelf.SlLaysM
import Derived.LaidEql
import Derived.Stop.Asserts
import Derived.Test.YtlfincjibiihaaaDoorCondBack4
section
namespace Go.Proofs.YtlfincjibiihaaaDoor
open Go Go.Av Go.Proofs
set_option linter.unusedVariables false
set_option linter.unusedSimpArgs false
set_option linter.unusedSectionVars false
def condOk (c : List Br) : Bool := decide (1 ≤ c.length) && decide (c.length ≤ 8) && decide (oddAt c < 0)
/-- An error by its number. -/
def errV (n : Int) : Value := if n = 0 then .nilIface else .iface 93 (.int .i64 n)

set_option maxRecDepth 100000 in
set_option maxHeartbeats 2000000 in
theorem containsOdd_calls (c : List Br) (hc : brsOk c) : ACalls Tryd.prog 38 [.p (.sl 35 (c.map brPV)), .p (.v (.func (.func 36) #[] #[]))] [] (.p (.v (.bool (decide (oddAt c ≥ 0))))) [] := by
  refine acalls_of (fn := Tryd.f38) Tryd.func38 rfl (by decide) (n := 9) rfl (by simp) (by simp) (by simp [idsOf]) (by simp [idsOf]) ?_
  simp only [argT]
  refine aw_reg rfl fun Khk1 hk1 => ?_
  simp only [go_sem]
  refine hk1 _ ?_
  refine aw_reg rfl fun Khk2 hk2 => ?_
  simp only [go_sem]
  refine bcall0 (indexOdd_calls c hc) (by simp only [go_sem]) rfl (by simp only [go_sem]) ?_
  simp only [go_sem]
  refine hk2 _ ?_
  refine aw_ret ?_
  refine ret_tmp ?_ trivial
  simp only [go_sem]

set_option maxRecDepth 100000 in
set_option maxHeartbeats 2000000 in
theorem check_calls (c : List Br) (hc : brsOk c) : ACalls Tryd.prog 14 [.p (condPV c)] [] (.p (.v (errV (if condOk c then 0 else 1)))) [] := by
  refine acalls_of (fn := Tryd.f14) Tryd.func14 rfl (by decide) (n := 21) rfl (by simp) (by simp) (by simp [idsOf]) (by simp [idsOf]) ?_
  simp only [argT]
  refine aw_reg rfl fun Khk1 hk1 => ?_
  simp only [go_sem, condPV]
  refine hk1 _ ?_
  refine aw_reg rfl fun Khk2 hk2 => ?_
  simp only [go_sem, condPV]
  refine hk2 _ ?_
  refine aw_seq fun Khk3 hk3 => ?_
  refine aw_reg rfl fun Khk4 hk4 => ?_
  simp only [go_sem, condPV]
  refine bg_split (fun cc5 => ?_) (fun cc5 => ?_)
  · simp only [go_sem, condPV, cc5]
    refine hk4 _ ?_
    refine aw_cond (b := true) (by simp only [go_sem, condPV, cc5]) (fun _ => ?_) (fun h => by cases h)
    refine aw_reg rfl fun Khk6 hk6 => ?_
    simp only [go_sem, condPV]
    refine hk6 _ ?_
    refine aw_ret ?_
    refine ret_tmp ?_ trivial
    simp only [go_sem, condPV]
    have hck : condOk c = false := by simp [condOk]; simp at *; omega
    simp [hck, errV, AV.le]
  · simp only [go_sem, condPV, cc5]
    refine bg_split (fun cc7 => ?_) (fun cc7 => ?_)
    · simp only [go_sem, condPV, cc5, cc7]
      refine hk4 _ ?_
      refine aw_cond (b := true) (by simp only [go_sem, condPV, cc5, cc7]) (fun _ => ?_) (fun h => by cases h)
      refine aw_reg rfl fun Khk8 hk8 => ?_
      simp only [go_sem, condPV]
      refine hk8 _ ?_
      refine aw_ret ?_
      refine ret_tmp ?_ trivial
      simp only [go_sem, condPV]
      have hck : condOk c = false := by simp [condOk]; simp at *; omega
      simp [hck, errV, AV.le]
    · simp only [go_sem, condPV, cc5, cc7]
      refine bcall0 (containsOdd_calls c hc) (by simp only [go_sem, condPV, cc5, cc7]) rfl (by simp only [go_sem, condPV, cc5, cc7]) ?_
      simp only [go_sem, condPV, cc5, cc7]
      refine hk4 _ ?_
      refine aw_cond rfl (fun cc9 => ?_) (fun cc9 => ?_)
      · refine aw_reg rfl fun Khk10 hk10 => ?_
        simp only [go_sem, condPV]
        refine hk10 _ ?_
        refine aw_ret ?_
        refine ret_tmp ?_ trivial
        simp only [go_sem, condPV]
        have hck : condOk c = false := by simp [condOk]; simp at *; omega
        simp [hck, errV, AV.le]
      · refine aw_skip ?_
        refine hk3 _ ?_
        refine aw_reg rfl fun Khk11 hk11 => ?_
        simp only [go_sem, condPV]
        refine hk11 _ ?_
        refine aw_ret ?_
        refine ret_tmp ?_ trivial
        simp only [go_sem, condPV]
        have hck : condOk c = true := by simp [condOk]; simp at *; omega
        simp [hck, errV, AV.le]

end Go.Proofs.YtlfincjibiihaaaDoor
end

section
namespace Go.Proofs.YtlfincjibiihaaaDoor
open Go Go.Av Go.Proofs Go.RowKit
set_option linter.unusedVariables false
set_option linter.unusedSimpArgs false
set_option linter.unusedSectionVars false
def GrowPost (n : Nat) (w : World) (e : Ending) (w' : World) : Prop := ∃ cs : Array Value, e = .returned (.slice (some ⟨w.heap.size, 0, none⟩) 0 (grownCap w n 0 5)) ∧ grownCap w n 0 5 = cs.size ∧ w' = w.drew.alloc (.cells cs 5)
set_option maxRecDepth 100000 in
set_option maxHeartbeats 1000000 in
theorem grow_raw (n : Nat) (h0 : 0 < n) (h1 : n ≤ 1000000000) (w : World) : Calls Tryd.prog 88 #[.slice none 0 0, .int .i64 n] w (GrowPost n w) := by
  obtain ⟨i, k2⟩ : ∃ i, Tryd.prog.info? 5 = some i := by
    cases h : Tryd.prog.info? 5 with
    | some i => exact ⟨i, rfl⟩
    | none => have h2 : (Tryd.prog.info? 5).isSome = true := by kernel_rfl
              rw [h] at h2; cases h2
  have k3 : i.zero = some (.int .u8 0) := by
    have h : (Tryd.prog.info? 5).bind (·.zero) = some (.int .u8 0) := by kernel_rfl
    rw [k2] at h
    exact h
  have hsz : i.size = 1 := by have := (ldOf_run ld5 default).2; simpa [sizeOf, typeInfo, k2] using this
  have hby : i.bytes = 1 := by have := by5; simpa [bytesOf, k2] using this
  have hr := Lib.run_append_nil_zeros (P := Tryd.prog) w 26 3 26 5 i (.int .u8 0) .i64 .i64 Tryd.underlying26 Tryd.underlying3 k2 k3 n h0 (by omega) (by omega) (by rw [hby]; omega)
  have hge := grownCap_ge w n 0 5
  have hn0 : ¬ ((n : Int) < 0) := by omega
  have hn1 : (n : Int) > 0 := by omega
  go_enter Tryd.func88, Tryd.ntmps88
  go_wp2_with (refine Lib.wpList_append_run _ rfl _ _ _ _ rfl _ _ rfl rfl _ _ hr ?_)
  go_ret
  refine ⟨_, rfl, ?_, rfl⟩
  simp [Builtin.zeroCells, Value.cells]
  omega
/-- Room for so many bytes. -/
theorem grow_calls (n : Nat) (h0 : 0 < n) (h1 : n ≤ 1000000000) : ACalls Tryd.prog 88 [.p (.v (.slice none 0 0)), .p (.v (.int .i64 n))] [] (.slt 22 1 []) [(22, .tail 0)] := by
  refine ⟨by kernel_rfl, fun w F m vals hlen hvals hS => ?_⟩
  match vals, hlen, hvals with
  | [v0, v1], _, hvals =>
    have e0 := (hvals 0 v0 _ rfl rfl).pv
    have e1 := (hvals 1 v1 _ rfl rfl).pv
    subst e0; subst e1
    refine (grow_raw n h0 h1 w).mono fun e w' hp => ?_
    obtain ⟨cs, he, hc, hw⟩ : GrowPost n w e w' := hp
    subst hw
    obtain ⟨t1, t2, t3, _⟩ := hS.tail_new (id := 22) (n := 0) (cs := cs) (e := 5) (lo := 0) (hi := cs.size) (Nat.zero_le _) (Nat.le_refl _) (.inl ⟨rfl, by omega, fun j e c h => by cases h⟩)
    have hr : hOf [(22, .tail 0)] = upd (hOf []) 22 (.tail 0) := rfl
    refine ⟨_, _, he, ?_, by rw [hr]; exact t1, t2.fr, fun b o hb ho => t2.le b o hb (by rw [← hr]; exact ho), fun id hid => absurd rfl hid⟩
    rw [hr]
    refine .one (.slt .sln fun k hk => ⟨Nat.zero_le _, fun _ => .inr ⟨w.heap.size, 0, 0, cs.size, by rw [hc], Nat.zero_le _, ?_, ?_, ?_⟩⟩) rfl
    · rw [upd_same]
    · rw [upd_same]
    · rw [upd_same]; simp
end Go.Proofs.YtlfincjibiihaaaDoor
end

section
namespace Go.Proofs.YtlfincjibiihaaaDoor
open Go Go.Av Go.Proofs
set_option linter.unusedVariables false
set_option linter.unusedSimpArgs false
set_option linter.unusedSectionVars false
set_option maxRecDepth 100000 in
set_option maxHeartbeats 2000000 in
theorem cloneB_nil  : ACalls Tryd.prog 89 [.p (.sl 1 [])] [] (.p (.sl 1 [])) [] := by
  refine acalls_of (fn := Tryd.f89) Tryd.func89 rfl (by decide) (n := 8) rfl (by simp) (by simp) (by simp [idsOf]) (by simp [idsOf]) ?_
  simp only [argT]
  refine aw_reg rfl fun Khk1 hk1 => ?_
  simp only [go_sem]
  refine hk1 _ ?_
  refine aw_seq fun Khk2 hk2 => ?_
  refine aw_reg rfl fun Khk3 hk3 => ?_
  simp only [go_sem]
  intro b
  refine hk3 _ ?_
  refine aw_cond rfl (fun cc4 => ?_) (fun cc4 => ?_)
  · refine aw_reg rfl fun Khk5 hk5 => ?_
    simp only [go_sem]
    refine hk5 _ ?_
    refine aw_ret ?_
    refine ret_tmp ?_ trivial
    simp only [go_sem]
  · refine aw_skip ?_
    refine hk2 _ ?_
    refine aw_reg rfl fun Khk6 hk6 => ?_
    simp only [go_sem]
    intro a
    refine hk6 _ ?_
    refine aw_ret ?_
    refine ret_tmp ?_ trivial
    simp only [go_sem]

set_option maxRecDepth 100000 in
set_option maxHeartbeats 2000000 in
theorem cloneB_cons (x : PV) (xs : List PV) (hl : (x :: xs).length ≤ 1000000000) : ACalls Tryd.prog 89 [.p (.sl 1 (x :: xs))] [] (.p (.sl 1 (x :: xs))) [] := by
  refine acalls_of (fn := Tryd.f89) Tryd.func89 rfl (by decide) (n := 8) rfl (by simp) (by simp) (by simp [idsOf]) (by simp [idsOf]) ?_
  simp only [argT]
  refine aw_reg rfl fun Khk1 hk1 => ?_
  simp only [go_sem]
  refine hk1 _ ?_
  refine aw_seq fun Khk2 hk2 => ?_
  refine aw_reg rfl fun Khk3 hk3 => ?_
  simp only [go_sem]
  refine btree (binRun_cons Tryd.underlying26) (by simp only [go_sem]) ?_
  simp only [go_sem]
  refine hk3 _ ?_
  refine aw_cond rfl (fun cc4 => ?_) (fun cc4 => ?_)
  · cases cc4
  · refine aw_skip ?_
    refine hk2 _ ?_
    refine aw_reg rfl fun Khk5 hk5 => ?_
    simp only [go_sem]
    refine fun a => ⟨by simp only [List.length_cons] at hl ⊢; omega, ?_⟩
    refine hk5 _ ?_
    refine aw_ret ?_
    refine ret_tmp ?_ trivial
    simp only [go_sem]

theorem cloneB_calls (xs : List PV) (hl : xs.length ≤ 1000000000) : ACalls Tryd.prog 89 [.p (.sl 1 xs)] [] (.p (.sl 1 xs)) [] := by
  cases xs with
  | nil => exact cloneB_nil
  | cons x xs => exact cloneB_cons x xs hl

end Go.Proofs.YtlfincjibiihaaaDoor
end

section
namespace Go.Proofs.YtlfincjibiihaaaDoor
open Go Go.Av Go.Proofs
set_option linter.unusedVariables false
set_option linter.unusedSimpArgs false
set_option linter.unusedSectionVars false
theorem len64_calls (x : Int) (h0 : 0 ≤ x) (h1 : x ≤ 18446744073709551615) : ACalls Tryd.prog 116 [.p (.v (.int .u64 x))] [] (.p (.v (.int .i64 (Lib.bitLen x.toNat)))) [] :=
  acalls_pure (args := [.int .u64 x]) (by kernel_rfl) rfl fun w => Tryd.bits_Len64 x w h0 h1
/-- How many bytes a number has. -/
def wid (x : Int) : Nat := (Lib.bitLen x.toNat + 7) / 8
theorem bitLen_64 (n : Nat) : Lib.bitLen n ≤ 64 := by
  have : ∀ f x, Lib.bitLenAux f x ≤ f := by
    intro f
    induction f with
    | zero => intro x; simp [Lib.bitLenAux]
    | succ f ih => intro x; simp only [Lib.bitLenAux]; split; omega; have := ih (x / 2); omega
  exact this 64 n
theorem wid_le (x : Int) : wid x ≤ 8 := by have := bitLen_64 x.toNat; unfold wid; omega
theorem wid_eq (x : Int) : IntKind.wrap .i64 ((IntKind.wrap .i64 ((Lib.bitLen x.toNat : Int) + 7)).tdiv 8) = (wid x : Int) := by
  have := bitLen_64 x.toNat
  rw [wrap_i64 (n := (Lib.bitLen x.toNat : Int) + 7) (by omega) (by omega)]
  have e : ((Lib.bitLen x.toNat : Int) + 7).tdiv 8 = ((Lib.bitLen x.toNat + 7) / 8 : Nat) := by
    rw [Int.tdiv_eq_ediv_of_nonneg (by omega)]; omega
  rw [e, wrap_i64 (by omega) (by omega)]; rfl

set_option maxRecDepth 100000 in
set_option maxHeartbeats 2000000 in
theorem width_calls (x : Int) (h0 : 0 ≤ x) (h1 : x ≤ 18446744073709551615) : ACalls Tryd.prog 87 [.p (.v (.int .u64 x))] [] (.p (.v (.int .i64 (wid x)))) [] := by
  refine acalls_of (fn := Tryd.f87) Tryd.func87 rfl (by decide) (n := 7) rfl (by simp) (by simp) (by simp [idsOf]) (by simp [idsOf]) ?_
  simp only [argT]
  refine aw_reg rfl fun Khk1 hk1 => ?_
  simp only [go_sem]
  refine hk1 _ ?_
  refine aw_reg rfl fun Khk2 hk2 => ?_
  simp only [go_sem]
  refine bcall0 (len64_calls x h0 h1) (by simp only [go_sem]) rfl (by simp only [go_sem]) ?_
  simp only [go_sem]
  refine hk2 _ ?_
  refine aw_ret ?_
  refine ret_tmp ?_ trivial
  simp only [go_sem]
  exact le_int (wid_eq x)

end Go.Proofs.YtlfincjibiihaaaDoor
end

section
namespace Go.Proofs.YtlfincjibiihaaaDoor
open Go Go.Av Go.Proofs
set_option linter.unusedVariables false
set_option linter.unusedSimpArgs false
set_option linter.unusedSectionVars false
def byteAt (x : Int) (k : Nat) : Int := x / 256 ^ k % 256
def dgs (x : Int) (w i : Nat) : List Int := ((List.range w).drop i).reverse.map (byteAt x)
theorem dgs_step {x : Int} {w i : Nat} (h : i < w) : dgs x w i = dgs x w (i + 1) ++ [byteAt x i] := by
  unfold dgs
  rw [List.drop_eq_getElem_cons (by simpa using h)]
  simp
theorem dgs_end {x : Int} {w : Nat} : dgs x w w = [] := by simp [dgs]
theorem dgs_len {x : Int} {w i : Nat} : (dgs x w i).length = w - i := by simp [dgs]
theorem byte_eq {x : Int} {k : Nat} (h0 : 0 ≤ x) (hk : k < 8) : IntKind.wrap .u8 (bXor .u8 (IntKind.wrap .u8 (x.fdiv (2 ^ min (8 * k) IntKind.u64.bits))) 0 : Nat) = byteAt x k := by
  have e1 : min (8 * k) IntKind.u64.bits = 8 * k := by simp only [IntKind.bits]; omega
  rw [e1, Int.fdiv_eq_ediv_of_nonneg _ (Int.le_of_lt (Int.pow_pos (by omega)))]
  have e2 : (2 : Int) ^ (8 * k) = 256 ^ k := by rw [Int.pow_mul]; rfl
  rw [e2]
  show IntKind.wrap .u8 ((BitVec.ofInt 8 (IntKind.wrap .u8 (x / 256 ^ k)) ^^^ 0#8).toNat : Int) = _
  rw [BitVec.xor_zero, BitVec.toNat_ofInt]
  unfold byteAt
  simp [IntKind.wrap, IntKind.bits, IntKind.signed]
  omega

set_option maxRecDepth 100000 in
set_option maxHeartbeats 2000000 in
theorem high_calls (x : Int) (xs : List PV) (h0 : 0 ≤ x) (h1 : x ≤ 18446744073709551615) (hl : xs.length ≤ 1000000000) : ACalls Tryd.prog 86 [.slt 1000 1 xs, .p (.v (.int .u64 x)), .p (.v (.int .u8 0))] [(1000, .tail xs.length)] (.slt 1000 1 (xs ++ (dgs x (wid x) 0).map B)) [(1000, .tail (xs.length + wid x))] := by
  refine acalls_of (fn := Tryd.f86) Tryd.func86 rfl (by decide) (n := 26) rfl (by simp) (by simp) (by simp [idsOf]) (by simp [idsOf]) ?_
  simp only [argT]
  have hw := wid_le x
  refine aw_reg rfl fun Khk1 hk1 => ?_
  simp only [go_sem, dgs_end, List.map_nil, List.append_nil]
  refine hk1 _ ?_
  refine aw_seq fun Khk2 hk2 => ?_
  refine aw_reg rfl fun Khk3 hk3 => ?_
  simp only [go_sem, dgs_end, List.map_nil, List.append_nil]
  refine bcall0 (width_calls x h0 h1) (by simp only [go_sem, dgs_end, List.map_nil, List.append_nil]) rfl (by simp only [go_sem, dgs_end, List.map_nil, List.append_nil]) ?_
  simp only [go_sem, dgs_end, List.map_nil, List.append_nil]
  refine hk3 _ ?_
  refine aw_block ?_
  refine aw_loop (α := {i : Nat // i ≤ wid x})
    (fun y => ⟨26, [(7, .p (.v (.int .i64 ((y.1 : Int) - 1)))), (6, .p (.v (.slice none 0 0))), (0, .slt 1000 1 (xs ++ (dgs x (wid x) y.1).map B)), (1, .p (.v (.int .u64 x))), (2, .p (.v (.int .u8 0)))], [(1000, .tail (xs.length + (wid x - y.1)))]⟩)
    (fun y => y.1) ⟨wid x, Nat.le_refl _⟩ (imp_less (by simp only [go_sem, dgs_end, List.map_nil, List.append_nil]; exact ⟨le_int (wrap_i64 (by omega) (by omega)), by simp⟩)) fun ⟨i, hi⟩ => ?_
  refine aw_seq fun Khk4 hk4 => ?_
  refine aw_reg rfl fun Khk5 hk5 => ?_
  simp only [go_sem, dgs_end, List.map_nil, List.append_nil]
  refine hk5 _ ?_
  refine aw_cond rfl (fun cc6 => ?_) (fun cc6 => ?_)
  · obtain ⟨k, rfl⟩ : ∃ k, i = k + 1 := ⟨i - 1, by simp at cc6; omega⟩
    have ek : (k : Int) + ((1 : Nat) : Int) - 1 = k := by omega
    have es : IntKind.wrap .i64 (8 * (k : Int)) = ((8 * k : Nat) : Int) := by rw [wrap_i64 (by omega) (by omega)]; omega
    have en : ¬ (((8 * k : Nat) : Int) < 0) := by omega
    have eb := byte_eq (x := x) (k := k) h0 (by omega)
    refine aw_skip ?_
    refine hk4 _ ?_
    refine aw_seq fun Khk7 hk7 => ?_
    refine aw_block ?_
    refine aw_reg_last rfl fun Khk8 hk8 => ?_
    simp only [go_sem, dgs_end, List.map_nil, List.append_nil, ek, es, en, dgs_len, List.length_append]
    refine ⟨by omega, ?_⟩
    refine hk8 _ ?_
    refine hk7 _ ?_
    refine aw_reg_last rfl fun Khk9 hk9 => ?_
    simp only [go_sem, dgs_end, List.map_nil, List.append_nil, ek, es, en, dgs_len, List.length_append]
    refine hk9 _ ?_
    refine ⟨⟨k, by omega⟩, imp_less (by
      simp only [go_sem, dgs_end, List.map_nil, List.append_nil, ek, es, en, dgs_len, List.length_append]
      refine ⟨⟨le_int (wrap_i64 (by omega) (by omega)), le_of_eq ?_⟩, by clear eb es en; omega⟩
      rw [dgs_step (i := k) (by omega), List.map_append]
      simp only [B, List.map_cons, List.map_nil, ← eb]
      rfl), by simp only; omega⟩
  · obtain rfl : i = 0 := by simp at cc6; omega
    refine aw_exit ?_
    refine hk2 _ ?_
    refine aw_reg rfl fun Khk10 hk10 => ?_
    simp only [go_sem, dgs_end, List.map_nil, List.append_nil]
    refine hk10 _ ?_
    refine aw_ret ?_
    refine ret_tmp ?_ (by simp only [go_sem, dgs_end, List.map_nil, List.append_nil]; simp)
    simp only [go_sem, dgs_end, List.map_nil, List.append_nil]

end Go.Proofs.YtlfincjibiihaaaDoor
end

section
namespace Go.Proofs.YtlfincjibiihaaaDoor
open Go Go.Av Go.Proofs
set_option linter.unusedVariables false
set_option linter.unusedSimpArgs false
set_option linter.unusedSectionVars false
theorem high_at (t : Nat) (x : Int) (xs : List PV) (h0 : 0 ≤ x) (h1 : x ≤ 18446744073709551615) (hl : xs.length ≤ 1000000000) :
    ACalls Tryd.prog 86 [.slt t 1 xs, .p (.v (.int .u64 x)), .p (.v (.int .u8 0))] [(t, .tail xs.length)] (.slt t 1 (xs ++ (dgs x (wid x) 0).map B)) [(t, .tail (xs.length + wid x))] := by
  have := (high_calls x xs h0 h1 hl).swap 1000 t
  simpa only [List.map_cons, List.map_nil, AV.ren, renH, AObj.ren, swp, if_true] using this
/-- The bytes of a number, laid. -/
def uintB (x : Int) : List Int := (wid x : Int) :: dgs x (wid x) 0
theorem uintB_len (x : Int) : (uintB x).length = wid x + 1 := by simp [uintB, dgs_len]
theorem wid_u8 (x : Int) : IntKind.wrap .u8 (wid x : Int) = wid x := by have := wid_le x; exact wrap_u8 (by omega) (by omega)

set_option maxRecDepth 100000 in
set_option maxHeartbeats 2000000 in
theorem uint_calls (x : Int) (xs : List PV) (h0 : 0 ≤ x) (h1 : x ≤ 18446744073709551615) (hl : xs.length ≤ 100000000) : ACalls Tryd.prog 48 [.ptr 1000 [], .p (.v (.int .u64 x))] [(1000, .row 149 (.st [.slt 1001 1 xs])), (1001, .tail xs.length)] (.ptr 1000 []) [(1000, .row 149 (.st [.slt 1001 1 (xs ++ (uintB x).map B)])), (1001, .tail (xs.length + (uintB x).length))] := by
  refine acalls_of (fn := Tryd.f48) Tryd.func48 rfl (by decide) (n := 22) rfl (by simp) (by simp) (by simp [idsOf]) (by simp [idsOf]) ?_
  simp only [argT]
  refine aw_reg rfl fun Khk1 hk1 => ?_
  simp only [go_sem, wid_u8, B]
  refine hk1 _ ?_
  refine aw_seq fun Khk2 hk2 => ?_
  refine aw_reg rfl fun Khk3 hk3 => ?_
  simp only [go_sem, wid_u8, B]
  refine hk3 _ ?_
  refine aw_cond rfl (fun cc4 => ?_) (fun cc4 => ?_)
  · refine aw_draw_last _ (by kernel_rfl) rfl rfl fun Jhk5 hk5 => ?_
    simp only [go_sem, wid_u8, B]
    refine ccall0 (width_calls x h0 h1) (by simp only [go_sem, wid_u8, B]) rfl (by simp only [go_sem, wid_u8, B]) ?_
    simp only [go_sem, wid_u8, B]
    refine ⟨by omega, ?_⟩
    refine ccall (high_at 1001 x (xs ++ [B (wid x)]) h0 h1 (by simp; omega)) (by simp only [go_sem, wid_u8, B]) (by simp [idsOk, allDead, idsOf, refsIn, AV.refs, AV.refsL]) (by simp only [go_sem, List.length_append]) (by simp only [go_sem, wid_u8, B]) ?_
    simp only [go_sem, wid_u8, B]
    refine hk5 _ _ _ ⟨by kernel_rfl, by first | exact trivial | (simp only [go_sem, wid_u8, B])⟩ ?_
    refine hk2 _ ?_
    refine aw_reg rfl fun Khk6 hk6 => ?_
    simp only [go_sem, wid_u8, B]
    refine hk6 _ ?_
    refine aw_ret ?_
    refine ret_tmp ?_ ?_
    simp only [go_sem, wid_u8, B]
    simp only [go_sem, wid_u8, B]
    exact ⟨by simp [uintB, B], by simp [uintB_len]; omega⟩
  · cases cc4

end Go.Proofs.YtlfincjibiihaaaDoor
end

section
namespace Go.Proofs.YtlfincjibiihaaaDoor
open Go Go.Av Go.Proofs
set_option linter.unusedVariables false
set_option linter.unusedSimpArgs false
set_option linter.unusedSectionVars false
set_option maxRecDepth 100000 in
set_option maxHeartbeats 2000000 in
theorem new_calls  : ACalls Tryd.prog 47 [] [] (.ptr 1 []) [(1, .row 149 (.p (.st [.v (.slice none 0 0)])))] := by
  refine acalls_of (fn := Tryd.f47) Tryd.func47 rfl (by decide) (n := 2) rfl (by simp) (by simp) (by simp [idsOf]) (by simp [idsOf]) ?_
  simp only [argT]
  refine aw_reg rfl fun Khk1 hk1 => ?_
  simp only [go_sem]
  refine hk1 _ ?_
  refine aw_reg rfl fun Khk2 hk2 => ?_
  simp only [go_sem]
  refine hk2 _ ?_
  refine aw_ret ?_
  refine ret_tmp ?_ ?_
  simp only [go_sem]
  simp only [go_sem]

set_option maxRecDepth 100000 in
set_option maxHeartbeats 2000000 in
theorem done_calls (xs : List PV) (hl : xs.length ≤ 1000000000) : ACalls Tryd.prog 51 [.ptr 1000 []] [(1000, .row 149 (.st [.slt 1001 1 xs])), (1001, .tail xs.length)] (.p (.sl 1 xs)) [] := by
  refine acalls_of (fn := Tryd.f51) Tryd.func51 rfl (by decide) (n := 10) rfl (by simp) (by simp) (by simp [idsOf]) (by simp [idsOf]) ?_
  simp only [argT]
  refine aw_reg rfl fun Khk1 hk1 => ?_
  simp only [go_sem]
  refine hk1 _ ?_
  refine aw_seq fun Khk2 hk2 => ?_
  refine aw_reg rfl fun Khk3 hk3 => ?_
  simp only [go_sem]
  refine hk3 _ ?_
  refine aw_cond rfl (fun cc4 => ?_) (fun cc4 => ?_)
  · cases cc4
  · refine aw_skip ?_
    refine hk2 _ ?_
    refine aw_reg rfl fun Khk5 hk5 => ?_
    simp only [go_sem]
    refine bcall0 (cloneB_calls xs hl) (by simp only [go_sem]) rfl (by simp only [go_sem]) ?_
    simp only [go_sem]
    refine hk5 _ ?_
    refine aw_ret ?_
    refine ret_tmp ?_ trivial
    simp only [go_sem]

set_option maxRecDepth 100000 in
set_option maxHeartbeats 2000000 in
theorem hash_calls (xs : List PV) (h : List Int) (hh : h.length = 32) (hl : xs.length ≤ 100000000) : ACalls Tryd.prog 49 [.ptr 1000 [], .p (.ints .u8 32 h)] [(1000, .row 149 (.st [.slt 1001 1 xs])), (1001, .tail xs.length)] (.ptr 1000 []) [(1000, .row 149 (.st [.slt 1001 1 (xs ++ h.map B)])), (1001, .tail (xs.length + 32))] := by
  refine acalls_of (fn := Tryd.f49) Tryd.func49 rfl (by decide) (n := 17) rfl (by simp) (by simp) (by simp [idsOf]) (by simp [idsOf]) ?_
  simp only [argT]
  refine aw_reg rfl fun Khk1 hk1 => ?_
  simp only [go_sem, hh]
  refine hk1 _ ?_
  refine aw_seq fun Khk2 hk2 => ?_
  refine aw_reg rfl fun Khk3 hk3 => ?_
  simp only [go_sem, hh]
  refine hk3 _ ?_
  refine aw_cond rfl (fun cc4 => ?_) (fun cc4 => ?_)
  · refine aw_draw_last _ (by kernel_rfl) rfl rfl fun Jhk5 hk5 => ?_
    simp only [go_sem, hh]
    refine ⟨by omega, ?_⟩
    refine hk5 _ _ _ ⟨by kernel_rfl, by first | exact trivial | (simp only [go_sem, hh])⟩ ?_
    refine hk2 _ ?_
    refine aw_reg rfl fun Khk6 hk6 => ?_
    simp only [go_sem, hh]
    refine hk6 _ ?_
    refine aw_ret ?_
    refine ret_tmp ?_ ?_
    simp only [go_sem, hh]
    simp only [go_sem, hh]
    rfl
  · cases cc4

end Go.Proofs.YtlfincjibiihaaaDoor
end

section
namespace Go.Proofs.YtlfincjibiihaaaDoor
open Go Go.Av Go.Proofs
set_option linter.unusedVariables false
set_option linter.unusedSimpArgs false
set_option linter.unusedSectionVars false
/-- The first place of a number. -/
def idxOf (l : List Int) (n : Int) : Int := match l.findIdx? (· == n) with | some i => i | none => -1
theorem idxOf_some {l : List Int} {n : Int} {i : Nat} (hi : i < l.length) (h : ix l i = n) (hall : ∀ j < i, ix l j ≠ n) : idxOf l n = i := by
  have : l.findIdx? (· == n) = some i := by
    rw [List.findIdx?_eq_some_iff_getElem]
    refine ⟨hi, by rw [← ix_get hi, h]; simp, fun j hj => ?_⟩
    have := hall j hj
    rw [ix_get (by omega)] at this
    simpa using this
  simp [idxOf, this]
theorem idxOf_none {l : List Int} {n : Int} (hall : ∀ j < l.length, ix l j ≠ n) : idxOf l n = -1 := by
  have : l.findIdx? (· == n) = none := by
    rw [List.findIdx?_eq_none_iff]
    intro b hb
    obtain ⟨i, hi, e⟩ := List.mem_iff_getElem.1 hb
    have := hall i hi
    rw [ix_get hi, e] at this
    simpa using this
  simp [idxOf, this]

set_option maxRecDepth 100000 in
set_option maxHeartbeats 2000000 in
theorem index_calls (l : List Int) (n : Int) (hl : l.length < 1000000) : ACalls Tryd.prog 82 [.p (.sl 1 (l.map I)), .p (.v (.int .i64 n))] [] (.p (.v (.int .i64 (idxOf l n)))) [] := by
  refine acalls_of (fn := Tryd.f82) Tryd.func82 rfl (by decide) (n := 19) rfl (by simp) (by simp) (by simp [idsOf]) (by simp [idsOf]) ?_
  simp only [argT]
  refine aw_reg rfl fun Khk1 hk1 => ?_
  simp only [go_sem, I]
  refine hk1 _ ?_
  refine aw_seq fun Khk2 hk2 => ?_
  refine aw_reg rfl fun Khk3 hk3 => ?_
  simp only [go_sem, I]
  refine hk3 _ ?_
  refine aw_block ?_
  refine aw_loop (α := {i : Nat // i ≤ l.length ∧ ∀ j < i, ix l j ≠ n})
    (fun x => ⟨19, [(8, .p (.v (.int .i64 x.1))), (7, .p (.v (.int .i64 l.length))), (4, .p (.v (.int .i64 0))), (0, .p (.sl 1 (l.map I))), (1, .p (.v (.int .i64 n)))], []⟩)
    (fun x => l.length - x.1) ⟨0, by simp⟩ (imp_less (by simp only [go_sem, I])) fun ⟨i, hi, hall⟩ => ?_
  refine aw_reg rfl fun Khk4 hk4 => ?_
  simp only [go_sem, I]
  refine hk4 _ ?_
  refine aw_seq fun Khk5 hk5 => ?_
  refine aw_cond rfl (fun cc6 => ?_) (fun cc6 => ?_)
  · have hlt : i < l.length := by simpa using cc6
    refine aw_skip ?_
    refine hk5 _ ?_
    refine aw_seq fun Khk7 hk7 => ?_
    refine aw_block ?_
    refine aw_reg rfl fun Khk8 hk8 => ?_
    simp only [go_sem, I, hlt, ix_map]
    refine hk8 _ ?_
    refine aw_reg rfl fun Khk9 hk9 => ?_
    simp only [go_sem, I, hlt, ix_map]
    refine hk9 _ ?_
    refine aw_cond rfl (fun cc10 => ?_) (fun cc10 => ?_)
    · have hn : ix l i = n := by simp at cc10; exact cc10.symm
      refine aw_reg rfl fun Khk11 hk11 => ?_
      simp only [go_sem, I, hlt, ix_map, idxOf_some hlt hn hall]
      refine hk11 _ ?_
      refine aw_ret ?_
      refine ret_tmp ?_ trivial
      simp only [go_sem, I, hlt, ix_map, idxOf_some hlt hn hall]
    · have hn : ix l i ≠ n := by simp at cc10; exact fun e => cc10 e.symm
      refine aw_skip ?_
      refine hk7 _ ?_
      refine aw_reg_last rfl fun Khk12 hk12 => ?_
      simp only [go_sem, I, hlt, ix_map]
      refine hk12 _ ?_
      refine ⟨⟨i + 1, hlt, has_step hall hn⟩, imp_less (by simp only [go_sem, I, hlt, ix_map]; exact le_int (wrap_i64 (by omega) (by omega))), by simp only; omega⟩
  · have hle : i = l.length := by simp at cc6; omega
    subst hle
    refine aw_exit ?_
    refine hk2 _ ?_
    refine aw_reg rfl fun Khk13 hk13 => ?_
    simp only [go_sem, I]
    refine hk13 _ ?_
    refine aw_ret ?_
    refine ret_tmp ?_ trivial
    simp only [go_sem, I]
    exact le_int (idxOf_none hall).symm

set_option maxRecDepth 100000 in
set_option maxHeartbeats 2000000 in
theorem contains_calls (l : List Int) (n : Int) (hl : l.length < 1000000) : ACalls Tryd.prog 41 [.p (.sl 1 (l.map I)), .p (.v (.int .i64 n))] [] (.p (.v (.bool (decide (idxOf l n ≥ 0))))) [] := by
  refine acalls_of (fn := Tryd.f41) Tryd.func41 rfl (by decide) (n := 9) rfl (by simp) (by simp) (by simp [idsOf]) (by simp [idsOf]) ?_
  simp only [argT]
  refine aw_reg rfl fun Khk1 hk1 => ?_
  simp only [go_sem, I]
  refine hk1 _ ?_
  refine aw_reg rfl fun Khk2 hk2 => ?_
  simp only [go_sem, I]
  refine bcall0 (index_calls l n hl) (by simp only [go_sem, I]) rfl (by simp only [go_sem, I]) ?_
  simp only [go_sem, I]
  refine hk2 _ ?_
  refine aw_ret ?_
  refine ret_tmp ?_ trivial
  simp only [go_sem, I]

end Go.Proofs.YtlfincjibiihaaaDoor
end

section
namespace Go.Proofs.YtlfincjibiihaaaDoor
open Go Go.Av Go.Proofs
set_option linter.unusedVariables false
set_option linter.unusedSimpArgs false
set_option linter.unusedSectionVars false
set_option maxRecDepth 100000 in
set_option maxHeartbeats 2000000 in
theorem own_calls (xs : List PV) (hl : xs.length ≤ 1000000000) : ACalls Tryd.prog 91 [.p (.sl 1 xs)] [] (.slt 6 1 xs) [(6, .tail xs.length)] := by
  refine acalls_of (fn := Tryd.f91) Tryd.func91 rfl (by decide) (n := 7) rfl (by simp) (by simp) (by simp [idsOf]) (by simp [idsOf]) ?_
  simp only [argT]
  refine aw_reg rfl fun Khk1 hk1 => ?_
  simp only [go_sem]
  refine hk1 _ ?_
  refine aw_reg rfl fun Khk2 hk2 => ?_
  simp only [go_sem]
  refine hk2 _ ?_
  refine aw_reg rfl fun Khk3 hk3 => ?_
  simp only [go_sem]
  refine ⟨by omega, ?_⟩
  refine hk3 _ ?_
  refine aw_ret ?_
  refine ret_tmp ?_ ?_
  simp only [go_sem]
  simp only [go_sem]

end Go.Proofs.YtlfincjibiihaaaDoor
end

section
namespace Go.Proofs.YtlfincjibiihaaaDoor
open Go Go.Av Go.Proofs
set_option linter.unusedVariables false
set_option linter.unusedSimpArgs false
set_option linter.unusedSectionVars false
/-- A number's bytes, the highest first. -/
def dig (n : Nat) : List Int := if h : n = 0 then [] else dig (n / 256) ++ [((n % 256 : Nat) : Int)]
termination_by n
decreasing_by omega
theorem le_sltE {t k : Nat} {es fs : List PV} (h : es = fs) : AV.le (.slt t k es) (.p (.sl k fs)) := by subst h; exact .inr (.inl ⟨_, rfl, rfl⟩)
theorem dig_zero : dig 0 = [] := by rw [dig]; simp
theorem dig_pos {n : Nat} (h : 0 < n) : dig n = dig (n / 256) ++ [((n % 256 : Nat) : Int)] := by rw [dig]; simp [show n ≠ 0 by omega]
theorem dig_lt : ∀ (k n : Nat), n < 256 ^ k → (dig n).length ≤ k
  | 0, n, h => by
    have : n = 0 := by simpa using h
    subst this; simp [dig_zero]
  | k + 1, n, h => by
    rcases Nat.eq_zero_or_pos n with h0 | h0
    · subst h0; simp [dig_zero]
    · rw [dig_pos h0]
      have : n / 256 < 256 ^ k := by rw [Nat.pow_succ] at h; omega
      have := dig_lt k (n / 256) this
      simp
      omega
theorem dig_len {n : Nat} (h : n < 18446744073709551616) : (dig n).length ≤ 8 := dig_lt 8 n (by simpa using h)

set_option maxRecDepth 100000 in
set_option maxHeartbeats 2000000 in
theorem digits_calls (n : Nat) (hn : n < 18446744073709551616) : ACalls Tryd.prog 90 [.p (.v (.int .u64 n))] [] (.p (.sl 1 ((dig n).map B))) [] := by
  refine acalls_of (fn := Tryd.f90) Tryd.func90 rfl (by decide) (n := 18) rfl (by simp) (by simp) (by simp [idsOf]) (by simp [idsOf]) ?_
  simp only [argT]
  have h8 := dig_len hn
  refine aw_reg rfl fun Khk1 hk1 => ?_
  simp only [go_sem]
  refine hk1 _ ?_
  refine aw_reg rfl fun Khk2 hk2 => ?_
  simp only [go_sem]
  refine hk2 _ ?_
  refine aw_seq fun Khk3 hk3 => ?_
  refine aw_block ?_
  refine aw_loop (α := {p : Nat × List Int // dig p.1 ++ p.2 = dig n ∧ p.1 ≤ n})
    (fun p => ⟨18, [(0, .p (.v (.int .u64 p.1.1))), (3, .p (.sl 1 (p.1.2.map B))), (2, .p (.v (.slice none 0 0)))], []⟩)
    (fun p => p.1.1) ⟨(n, []), by simp⟩ (imp_less (by simp only [go_sem])) fun ⟨⟨k, l⟩, hd, hk⟩ => ?_
  simp only at hd hk
  have hlen : l.length ≤ 8 := by rw [← hd] at h8; simp at h8; omega
  refine aw_seq fun Khk4 hk4 => ?_
  refine aw_reg rfl fun Khk5 hk5 => ?_
  simp only [go_sem]
  refine hk5 _ ?_
  refine aw_cond rfl (fun cc6 => ?_) (fun cc6 => ?_)
  · have hpos : 0 < k := by simp at cc6; omega
    refine aw_skip ?_
    refine hk4 _ ?_
    refine aw_block ?_
    refine aw_reg rfl fun Khk7 hk7 => ?_
    simp only [go_sem]
    refine hk7 _ ?_
    refine aw_reg rfl fun Khk8 hk8 => ?_
    simp only [go_sem]
    refine ⟨by simp; omega, ?_⟩
    refine hk8 _ ?_
    refine aw_reg_last rfl fun Khk9 hk9 => ?_
    simp only [go_sem]
    refine hk9 _ ?_
    refine ⟨⟨(k / 256, ((k % 256 : Nat) : Int) :: l), ?_, ?_⟩, imp_less (by
      simp only [go_sem]
      have e1 : ((k : Int).tdiv 256) = ((k / 256 : Nat) : Int) := by rw [Int.tdiv_eq_ediv_of_nonneg (by omega)]; omega
      have e2 : ((k : Int).tmod 256) = ((k % 256 : Nat) : Int) := by rw [Int.tmod_eq_emod_of_nonneg (by omega)]; omega
      rw [e1, e2, wrap_u64 (by omega) (by omega), wrap_u8 (by omega) (by omega)]
      exact ⟨le_int rfl, le_sltE rfl⟩), ?_⟩
    · simp only; rw [← hd, dig_pos hpos]; simp
    · simp only; omega
    · simp only; omega
  · obtain rfl : k = 0 := by simp at cc6; omega
    rw [dig_zero, List.nil_append] at hd
    refine aw_exit ?_
    refine hk3 _ ?_
    refine aw_reg rfl fun Khk10 hk10 => ?_
    simp only [go_sem]
    refine hk10 _ ?_
    refine aw_ret ?_
    refine ret_tmp ?_ trivial
    subst hd
    simp only [go_sem]

end Go.Proofs.YtlfincjibiihaaaDoor
end

section
namespace Go.Proofs.YtlfincjibiihaaaDoor
open Go Go.Av Go.Proofs
set_option linter.unusedVariables false
set_option linter.unusedSimpArgs false
set_option linter.unusedSectionVars false
def uintR (n : Nat) : List Int := ((dig n).length : Int) :: dig n

set_option maxRecDepth 100000 in
set_option maxHeartbeats 2000000 in
theorem refUint_calls (xs : List PV) (n : Nat) (hn : n < 18446744073709551616) (hl : xs.length ≤ 100000000) : ACalls Tryd.prog 52 [.p (.sl 1 xs), .p (.v (.int .u64 n))] [] (.slt 6 1 (xs ++ (uintR n).map B)) [(6, .tail (xs.length + (uintR n).length))] := by
  refine acalls_of (fn := Tryd.f52) Tryd.func52 rfl (by decide) (n := 17) rfl (by simp) (by simp) (by simp [idsOf]) (by simp [idsOf]) ?_
  simp only [argT]
  have h8 := dig_len hn
  have e8 : IntKind.wrap .u8 ((dig n).length : Int) = (dig n).length := wrap_u8 (by omega) (by omega)
  refine aw_reg rfl fun Khk1 hk1 => ?_
  simp only [go_sem, e8]
  refine hk1 _ ?_
  refine aw_reg rfl fun Khk2 hk2 => ?_
  simp only [go_sem, e8]
  refine bcall0 (digits_calls n hn) (by simp only [go_sem, e8]) rfl (by simp only [go_sem, e8]) ?_
  simp only [go_sem, e8]
  refine hk2 _ ?_
  refine aw_reg rfl fun Khk3 hk3 => ?_
  simp only [go_sem, e8]
  refine bcall (own_calls xs (by omega)) (by simp only [go_sem, e8]) (by simp [idsOk, allDead, idsOf, refsIn, AV.refs, AV.refsL]) (by simp only [go_sem]) (by simp only [go_sem, e8]) (by simp only [go_sem, e8]) ?_
  simp only [go_sem, e8]
  refine ⟨by omega, by omega, ?_⟩
  refine hk3 _ ?_
  refine aw_ret ?_
  refine ret_tmp ?_ ?_
  simp only [go_sem, e8]
  exact le_of_eq (by simp [uintR, B])
  simp only [go_sem, e8]
  simp [uintR]; omega

end Go.Proofs.YtlfincjibiihaaaDoor
end

section
namespace Go.Proofs.YtlfincjibiihaaaDoor
open Go Go.Av Go.Proofs
set_option linter.unusedVariables false
set_option linter.unusedSimpArgs false
set_option linter.unusedSectionVars false
set_option maxRecDepth 100000 in
set_option maxHeartbeats 2000000 in
theorem refHash_calls (xs : List PV) (h : List Int) (hh : h.length = 32) (hl : xs.length ≤ 100000000) : ACalls Tryd.prog 53 [.p (.sl 1 xs), .p (.ints .u8 32 h)] [] (.slt 6 1 (xs ++ h.map B)) [(6, .tail (xs.length + 32))] := by
  refine acalls_of (fn := Tryd.f53) Tryd.func53 rfl (by decide) (n := 9) rfl (by simp) (by simp) (by simp [idsOf]) (by simp [idsOf]) ?_
  simp only [argT]
  refine aw_reg rfl fun Khk1 hk1 => ?_
  simp only [go_sem, hh]
  refine hk1 _ ?_
  refine aw_draw _ (by kernel_rfl) rfl rfl fun Jhk2 hk2 => ?_
  simp only [go_sem, hh]
  refine ccall (own_calls xs (by omega)) (by simp only [go_sem, hh]) (by simp [idsOk, allDead, idsOf, refsIn, AV.refs, AV.refsL]) (by simp only [go_sem]) (by simp only [go_sem, hh]) ?_
  simp only [go_sem, hh]
  refine ⟨by omega, ?_⟩
  refine hk2 _ _ _ ⟨by kernel_rfl, by first | exact trivial | (simp only [go_sem, hh])⟩ ?_
  refine aw_ret ?_
  refine ret_tmp ?_ ?_
  simp only [go_sem, hh]
  exact le_of_eq (by simp [B])
  simp only [go_sem, hh]

end Go.Proofs.YtlfincjibiihaaaDoor
end

section
namespace Go.Proofs.YtlfincjibiihaaaDoor
open Go Go.Av Go.Proofs
set_option linter.unusedVariables false
set_option linter.unusedSimpArgs false
set_option linter.unusedSectionVars false
/-- How many elements the first lists have. -/
def sumN (xss : List (List PV)) (i : Nat) : Nat := ((xss.take i).map List.length).sum
theorem sumN_zero {xss : List (List PV)} : sumN xss 0 = 0 := rfl
theorem sumN_succ {xss : List (List PV)} {i : Nat} (h : i < xss.length) : sumN xss (i + 1) = sumN xss i + (ix xss i).length := by
  simp only [sumN, List.take_succ_eq_append_getElem h, List.map_append, List.map_cons, List.map_nil, List.sum_append, List.sum_cons, List.sum_nil, ix_get h, Nat.add_zero]
theorem sumN_le {xss : List (List PV)} : ∀ i, sumN xss i ≤ sumN xss xss.length := fun i => by
  have := congrArg (fun l => (l.map List.length).sum) (List.take_append_drop i xss)
  simp only [List.map_append, List.sum_append] at this
  unfold sumN
  rw [List.take_length]
  omega
def flatN (xss : List (List PV)) (i : Nat) : List PV := (xss.take i).flatten
theorem flatN_succ {xss : List (List PV)} {i : Nat} (h : i < xss.length) : flatN xss (i + 1) = flatN xss i ++ ix xss i := by
  simp only [flatN, List.take_succ_eq_append_getElem h, List.flatten_append, List.flatten_cons, List.flatten_nil, List.append_nil, ix_get h]
theorem flatN_len {xss : List (List PV)} : ∀ i, (flatN xss i).length = sumN xss i := fun i => by
  unfold flatN sumN
  rw [List.length_flatten]
theorem flatN_all {xss : List (List PV)} : flatN xss xss.length = xss.flatten := by simp [flatN]

set_option maxRecDepth 100000 in
set_option maxHeartbeats 2000000 in
theorem concat_calls (xss : List (List PV)) (h0 : 0 < sumN xss xss.length) (h1 : sumN xss xss.length ≤ 1000000000) (h2 : xss.length ≤ 1000000) : ACalls Tryd.prog 50 [.p (.sl 1 (xss.map (.sl 1)))] [] (.slt 22 1 xss.flatten) [(22, .tail xss.flatten.length)] := by
  refine acalls_of (fn := Tryd.f50) Tryd.func50 rfl (by decide) (n := 36) rfl (by simp) (by simp) (by simp [idsOf]) (by simp [idsOf]) ?_
  simp only [argT]
  refine aw_reg rfl fun Khk1 hk1 => ?_
  simp only [go_sem]
  refine hk1 _ ?_
  refine aw_reg rfl fun Khk2 hk2 => ?_
  simp only [go_sem]
  refine hk2 _ ?_
  refine aw_seq fun Khk3 hk3 => ?_
  refine aw_reg rfl fun Khk4 hk4 => ?_
  simp only [go_sem]
  refine hk4 _ ?_
  refine aw_block ?_
  refine aw_loop (α := {i : Nat // i ≤ xss.length})
    (fun x => ⟨36, [(11, .p (.v (.int .i64 x.1))), (10, .p (.v (.int .i64 xss.length))), (9, .p (.sl 1 (xss.map (.sl 1)))), (3, .p (.v (.int .i64 (sumN xss x.1)))), (0, .p (.sl 1 (xss.map (.sl 1))))], []⟩)
    (fun x => xss.length - x.1) ⟨0, by omega⟩ (imp_less (by simp only [go_sem]; exact le_int rfl)) fun ⟨i, hi⟩ => ?_
  refine aw_reg rfl fun Khk5 hk5 => ?_
  simp only [go_sem]
  refine hk5 _ ?_
  refine aw_seq fun Khk6 hk6 => ?_
  refine aw_cond rfl (fun cc7 => ?_) (fun cc7 => ?_)
  · have hlt : i < xss.length := by simpa using cc7
    have hs := sumN_succ hlt
    have hle := sumN_le (xss := xss) (i + 1)
    have ew : IntKind.wrap .i64 ((sumN xss i : Int) + ((ix xss i).length : Int)) = ((sumN xss (i + 1) : Nat) : Int) := by rw [wrap_i64 (by omega) (by omega)]; omega
    have hn : ¬ ((sumN xss (i + 1) : Nat) : Int) < 0 := by omega
    refine aw_skip ?_
    refine hk6 _ ?_
    refine aw_seq fun Khk8 hk8 => ?_
    refine aw_block ?_
    refine aw_reg rfl fun Khk9 hk9 => ?_
    simp only [go_sem, hlt, ix_map, ew, hn, decide_false]
    refine hk9 _ ?_
    refine aw_reg rfl fun Khk10 hk10 => ?_
    simp only [go_sem, hlt, ix_map, ew, hn, decide_false]
    refine hk10 _ ?_
    refine aw_reg rfl fun Khk11 hk11 => ?_
    simp only [go_sem, hlt, ix_map, ew, hn, decide_false]
    refine hk11 _ ?_
    refine aw_cond rfl (fun cc12 => ?_) (fun cc12 => ?_)
    · simp at cc12
    · refine aw_skip ?_
      refine hk8 _ ?_
      refine aw_reg_last rfl fun Khk13 hk13 => ?_
      simp only [go_sem, hlt, ix_map, ew, hn, decide_false]
      refine hk13 _ ?_
      refine ⟨⟨i + 1, hlt⟩, imp_less (by simp only [go_sem, hlt, ix_map, ew, hn, decide_false]; exact le_int (wrap_i64 (by omega) (by omega))), by simp only; omega⟩
  · have hle : i = xss.length := by simp at cc7; omega
    subst hle
    refine aw_exit ?_
    refine hk3 _ ?_
    refine aw_reg rfl fun Khk14 hk14 => ?_
    simp only [go_sem]
    refine bcall (grow_calls (sumN xss xss.length) h0 h1) (by simp only [go_sem]) (by simp [idsOk, allDead, idsOf, refsIn, AV.refs, AV.refsL]) (by simp only [go_sem]) (by simp only [go_sem]) (by simp only [go_sem]) ?_
    simp only [go_sem]
    refine hk14 _ ?_
    refine aw_seq fun Khk15 hk15 => ?_
    refine aw_reg rfl fun Khk16 hk16 => ?_
    simp only [go_sem]
    refine hk16 _ ?_
    refine aw_block ?_
    refine aw_loop (α := {i : Nat // i ≤ xss.length})
      (fun x => ⟨36, [(27, .p (.v (.int .i64 x.1))), (26, .p (.v (.int .i64 xss.length))), (25, .p (.sl 1 (xss.map (.sl 1)))), (6, .slt 22 1 (flatN xss x.1))], [(22, .tail (flatN xss x.1).length)]⟩)
      (fun x => xss.length - x.1) ⟨0, by omega⟩ (imp_less (by simp only [go_sem]; exact ⟨le_of_eq rfl, rfl⟩)) fun ⟨i, hi⟩ => ?_
    refine aw_reg rfl fun Khk17 hk17 => ?_
    simp only [go_sem]
    refine hk17 _ ?_
    refine aw_seq fun Khk18 hk18 => ?_
    refine aw_cond rfl (fun cc19 => ?_) (fun cc19 => ?_)
    · have hlt : i < xss.length := by simpa using cc19
      have hs := sumN_succ hlt
      have hle := sumN_le (xss := xss) (i + 1)
      have hfl := flatN_len (xss := xss) i
      have hfs := flatN_succ hlt
      refine aw_skip ?_
      refine hk18 _ ?_
      refine aw_seq fun Khk20 hk20 => ?_
      refine aw_block ?_
      refine aw_reg rfl fun Khk21 hk21 => ?_
      simp only [go_sem, hlt, ix_map]
      refine hk21 _ ?_
      refine aw_reg_last rfl fun Khk22 hk22 => ?_
      simp only [go_sem, hlt, ix_map]
      refine ⟨by omega, ?_⟩
      refine hk22 _ ?_
      refine hk20 _ ?_
      refine aw_reg_last rfl fun Khk23 hk23 => ?_
      simp only [go_sem, hlt, ix_map]
      refine hk23 _ ?_
      refine ⟨⟨i + 1, hlt⟩, imp_less (by simp only [go_sem, hlt, ix_map]; simp only [hfs, List.length_append]; refine ⟨⟨le_int ?_, le_of_eq rfl⟩, ?_⟩ <;> first | rfl | trivial | exact wrap_i64 (by omega) (by omega)), by simp only; omega⟩
    · have hle : i = xss.length := by simp at cc19; omega
      subst hle
      refine aw_exit ?_
      refine hk15 _ ?_
      refine aw_reg rfl fun Khk24 hk24 => ?_
      simp only [go_sem, flatN_all]
      refine hk24 _ ?_
      refine aw_ret ?_
      refine ret_tmp ?_ ?_
      simp only [go_sem, flatN_all]
      simp only [go_sem, flatN_all]

end Go.Proofs.YtlfincjibiihaaaDoor
end

section
namespace Go.Proofs.YtlfincjibiihaaaDoor
open Go Go.Av Go.Proofs
set_option linter.unusedVariables false
set_option linter.unusedSimpArgs false
set_option linter.unusedSectionVars false
set_option maxRecDepth 100000 in
set_option maxHeartbeats 2000000 in
theorem uint0_calls (x : Int) (h0 : 0 ≤ x) (h1 : x ≤ 18446744073709551615) : ACalls Tryd.prog 48 [.ptr 1000 [], .p (.v (.int .u64 x))] [(1000, .row 149 (.p (.st [.v (.slice none 0 0)])))] (.ptr 1000 []) [(1000, .row 149 (.st [.slt 16 1 ((uintB x).map B)])), (16, .tail (uintB x).length)] := by
  refine acalls_of (fn := Tryd.f48) Tryd.func48 rfl (by decide) (n := 22) rfl (by simp) (by simp) (by simp [idsOf]) (by simp [idsOf]) ?_
  simp only [argT]
  refine aw_reg rfl fun Khk1 hk1 => ?_
  simp only [go_sem, wid_u8, B]
  refine hk1 _ ?_
  refine aw_seq fun Khk2 hk2 => ?_
  refine aw_reg rfl fun Khk3 hk3 => ?_
  simp only [go_sem, wid_u8, B]
  refine hk3 _ ?_
  refine aw_cond rfl (fun cc4 => ?_) (fun cc4 => ?_)
  · refine aw_draw_last _ (by kernel_rfl) rfl rfl fun Jhk5 hk5 => ?_
    simp only [go_sem, wid_u8, B]
    refine ccall0 (width_calls x h0 h1) (by simp only [go_sem, wid_u8, B]) rfl (by simp only [go_sem, wid_u8, B]) ?_
    simp only [go_sem, wid_u8, B]
    refine ccall (high_at 16 x [B (wid x)] h0 h1 (by simp)) (by simp only [go_sem, wid_u8, B]) (by simp [idsOk, allDead, idsOf, refsIn, AV.refs, AV.refsL]) (by simp only [go_sem, List.length_append]) (by simp only [go_sem, wid_u8, B]) ?_
    simp only [go_sem, wid_u8, B]
    refine hk5 _ _ _ ⟨by kernel_rfl, by first | exact trivial | (simp only [go_sem, wid_u8, B])⟩ ?_
    refine hk2 _ ?_
    refine aw_reg rfl fun Khk6 hk6 => ?_
    simp only [go_sem, wid_u8, B]
    refine hk6 _ ?_
    refine aw_ret ?_
    refine ret_tmp ?_ ?_
    simp only [go_sem, wid_u8, B]
    simp only [go_sem, wid_u8, B]
    exact ⟨by simp [uintB, B], by simp [uintB_len]; omega⟩
  · cases cc4

/-- The writer's contracts under the numbers that its users have. -/
theorem uint0P (x : Int) (h0 : 0 ≤ x) (h1 : x ≤ 18446744073709551615) : ACalls Tryd.prog 48 [.ptr 1 [], .p (.v (.int .u64 x))] [(1, .row 149 (.p (.st [.v (.slice none 0 0)])))] (.ptr 1 []) [(1, .row 149 (.st [.slt 16 1 ((uintB x).map B)])), (16, .tail (uintB x).length)] := by
  have := (uint0_calls x h0 h1).swap 1000 1
  simpa [AV.ren, AV.renL, renH, AObj.ren, swp] using this
theorem uintP (x : Int) (xs : List PV) (h0 : 0 ≤ x) (h1 : x ≤ 18446744073709551615) (hl : xs.length ≤ 100000000) : ACalls Tryd.prog 48 [.ptr 1 [], .p (.v (.int .u64 x))] [(1, .row 149 (.st [.slt 16 1 xs])), (16, .tail xs.length)] (.ptr 1 []) [(1, .row 149 (.st [.slt 16 1 (xs ++ (uintB x).map B)])), (16, .tail (xs.length + (uintB x).length))] := by
  have := ((uint_calls x xs h0 h1 hl).swap 1000 1).swap 1001 16
  simpa [AV.ren, AV.renL, renH, AObj.ren, swp] using this
theorem hashP (xs : List PV) (h : List Int) (hh : h.length = 32) (hl : xs.length ≤ 100000000) : ACalls Tryd.prog 49 [.ptr 1 [], .p (.ints .u8 32 h)] [(1, .row 149 (.st [.slt 16 1 xs])), (16, .tail xs.length)] (.ptr 1 []) [(1, .row 149 (.st [.slt 16 1 (xs ++ h.map B)])), (16, .tail (xs.length + 32))] := by
  have := ((hash_calls xs h hh hl).swap 1000 1).swap 1001 16
  simpa [AV.ren, AV.renL, renH, AObj.ren, swp] using this
theorem doneP (xs : List PV) (hl : xs.length ≤ 1000000000) : ACalls Tryd.prog 51 [.ptr 1 []] [(1, .row 149 (.st [.slt 16 1 xs])), (16, .tail xs.length)] (.p (.sl 1 xs)) [] := by
  have := ((done_calls xs hl).swap 1000 1).swap 1001 16
  simpa [AV.ren, AV.renL, renH, AObj.ren, swp] using this

end Go.Proofs.YtlfincjibiihaaaDoor
end

section
namespace Go.Proofs.YtlfincjibiihaaaDoor
open Go Go.Av Go.Proofs
set_option linter.unusedVariables false
set_option linter.unusedSimpArgs false
set_option linter.unusedSectionVars false
/-- A number, as it is laid: what an int is as a number without sign. -/
def u64 (k : Int) : Int := IntKind.wrap .u64 k
theorem u64_0 (k : Int) : 0 ≤ u64 k := by simp [u64, IntKind.wrap, IntKind.bits, IntKind.signed]; omega
theorem u64_1 (k : Int) : u64 k ≤ 18446744073709551615 := by simp [u64, IntKind.wrap, IntKind.bits, IntKind.signed]; omega
theorem u64_nat {n : Nat} (h : n < 1000000000000000000) : u64 (n : Int) = n := wrap_u64 (by omega) (by omega)
/-- A branch's bytes, a condition's bytes. -/
def keysB (l : List Int) (j : Nat) : List Int := (l.take j).flatMap fun k => uintB (u64 k)
def brB (b : Br) : List Int := uintB b.keys.length ++ keysB b.keys b.keys.length ++ b.lock ++ uintB (u64 b.after) ++ uintB (u64 b.older)
def condB (c : List Br) (i : Nat) : List Int := uintB c.length ++ (c.take i).flatMap brB
def putB (c : List Br) : List Int := condB c c.length
def csz (c : List Br) : Nat := (c.map fun b => b.keys.length + 1).sum
def cOk (c : List Br) : Prop := csz c ≤ 1000 ∧ ∀ b ∈ c, b.lock.length = 32
theorem uintB_le (x : Int) : (uintB x).length ≤ 9 := by have := wid_le x; rw [uintB_len]; omega
theorem flatMap_le {α : Type} (f : α → List Int) (k : Nat) : ∀ l : List α, (∀ x ∈ l, (f x).length ≤ k) → (l.flatMap f).length ≤ k * l.length
  | [], _ => by simp
  | a :: l, h => by
    have h1 := h a (by simp)
    have h2 := flatMap_le f k l fun x hx => h x (by simp [hx])
    simp only [List.flatMap_cons, List.length_append, List.length_cons, Nat.mul_succ]
    omega
theorem keysB_le (l : List Int) (j : Nat) : (keysB l j).length ≤ 9 * l.length := by
  have := flatMap_le (fun k => uintB (u64 k)) 9 (l.take j) fun x _ => uintB_le _
  have h2 : (l.take j).length ≤ l.length := by rw [List.length_take]; exact Nat.min_le_right _ _
  unfold keysB
  omega
theorem keysB_succ {l : List Int} {j : Nat} (h : j < l.length) : keysB l (j + 1) = keysB l j ++ uintB (u64 (ix l j)) := by
  simp only [keysB, List.take_succ_eq_append_getElem h, List.flatMap_append, List.flatMap_cons, List.flatMap_nil, List.append_nil, ix_get h]
theorem brB_le {b : Br} (h : b.lock.length = 32) : (brB b).length ≤ 59 + 9 * b.keys.length := by
  have h1 := uintB_le b.keys.length
  have h2 := keysB_le b.keys b.keys.length
  have h3 := uintB_le (u64 b.after)
  have h4 := uintB_le (u64 b.older)
  simp only [brB, List.length_append]
  omega
theorem csz_mem {c : List Br} {b : Br} (h : b ∈ c) : b.keys.length + 1 ≤ csz c := by
  unfold csz
  induction c with
  | nil => cases h
  | cons a c ih =>
    simp only [List.map_cons, List.sum_cons]
    rcases List.mem_cons.1 h with e | e
    · subst e; omega
    · have := ih e; omega
theorem csz_len (c : List Br) : c.length ≤ csz c := by
  unfold csz
  induction c with
  | nil => simp
  | cons a c ih => simp only [List.map_cons, List.sum_cons, List.length_cons]; omega
theorem condB_le {c : List Br} (h : cOk c) (i : Nat) : (condB c i).length ≤ 9 + 9059 * 1000 := by
  have h1 := uintB_le c.length
  have h2 := flatMap_le brB 9059 (c.take i) fun b hb => by
    have hm := List.mem_of_mem_take hb
    have := brB_le (h.2 b hm)
    have := csz_mem hm
    have := h.1
    omega
  have h3 : (c.take i).length ≤ c.length := by rw [List.length_take]; exact Nat.min_le_right _ _
  have h4 := csz_len c
  have h5 := h.1
  simp only [condB, List.length_append]
  have h6 : 9059 * (c.take i).length ≤ 9059 * 1000 := Nat.mul_le_mul_left _ (by omega)
  omega
theorem condB_0 (c : List Br) : condB c 0 = uintB c.length := by simp [condB]
theorem condB_succ {c : List Br} {i : Nat} (h : i < c.length) : condB c (i + 1) = condB c i ++ brB (ix c i) := by
  simp only [condB, List.take_succ_eq_append_getElem h, List.flatMap_append, List.flatMap_cons, List.flatMap_nil, List.append_nil, ix_get h, List.append_assoc]
theorem cOk_ix {c : List Br} (h : cOk c) {i : Nat} (hi : i < c.length) : (ix c i).keys.length ≤ 1000 ∧ (ix c i).lock.length = 32 := by
  rw [ix_get hi]
  have hm := List.getElem_mem hi
  have := csz_mem hm
  exact ⟨by have := h.1; omega, h.2 _ hm⟩
/-- The bytes of a branch up to its keys. -/
def brK (b : Br) (j : Nat) : List Int := uintB b.keys.length ++ keysB b.keys j
theorem brK_0 (b : Br) : brK b 0 = uintB b.keys.length := by simp [brK, keysB]
theorem brK_succ {b : Br} {j : Nat} (h : j < b.keys.length) : brK b (j + 1) = brK b j ++ uintB (u64 (ix b.keys j)) := by
  simp only [brK, keysB_succ h, List.append_assoc]
theorem brK_le {b : Br} (h : b.keys.length ≤ 1000) (j : Nat) : (brK b j).length ≤ 9009 := by
  have h1 := uintB_le b.keys.length
  have h2 := keysB_le b.keys j
  simp only [brK, List.length_append]
  omega
theorem brB_eq (b : Br) : brB b = brK b b.keys.length ++ b.lock ++ uintB (u64 b.after) ++ uintB (u64 b.older) := by
  simp only [brB, brK]
theorem mapB_app (a b : List Int) : a.map B ++ b.map B = (a ++ b).map B := List.map_append.symm

set_option maxRecDepth 100000 in
set_option maxHeartbeats 2000000 in
theorem put_calls (bs : List PV) (c : List Br) (hb : bs.length ≤ 900000000) (hc : cOk c) : ACalls Tryd.prog 18 [.p (.sl 1 bs), .p (condPV c)] [] (.p (.sl 1 (bs ++ (putB c).map B))) [] := by
  refine acalls_of (fn := Tryd.f18) Tryd.func18 rfl (by decide) (n := 59) rfl (by simp) (by simp) (by simp [idsOf]) (by simp [idsOf]) ?_
  simp only [argT]
  have hcl := csz_len c
  have hc1 := hc.1
  have ew : IntKind.wrap .u64 (c.length : Int) = c.length := wrap_u64 (by omega) (by omega)
  refine aw_reg rfl fun Khk1 hk1 => ?_
  simp only [go_sem, condPV, I, ew]
  refine hk1 _ ?_
  refine aw_draw _ (by kernel_rfl) rfl rfl fun Jhk2 hk2 => ?_
  simp only [go_sem, condPV, I, ew]
  refine ccall (new_calls) (by simp only [go_sem, condPV, I, ew]) (by simp [idsOk, allDead, idsOf, refsIn, AV.refs, AV.refsL]) (by simp only [go_sem]) (by simp only [go_sem, condPV, I, ew]) ?_
  simp only [go_sem, condPV, I, ew]
  refine ccall (uint0P c.length (by omega) (by omega)) (by simp only [go_sem, condPV, I, ew]) (by simp [idsOk, allDead, idsOf, refsIn, AV.refs, AV.refsL]) (by simp only [go_sem]) (by simp only [go_sem, condPV, I, ew]) ?_
  simp only [go_sem, condPV, I, ew]
  refine hk2 _ _ _ ⟨by kernel_rfl, by first | exact trivial | (simp only [go_sem, condPV, I, ew])⟩ ?_
  refine aw_seq fun Khk3 hk3 => ?_
  refine aw_reg rfl fun Khk4 hk4 => ?_
  simp only [go_sem, condPV, I, ew]
  refine hk4 _ ?_
  refine aw_block ?_
  refine aw_loop (α := {i : Nat // i ≤ c.length})
    (fun x => ⟨59, [(19, .p (.v (.int .i64 x.1))), (18, .p (.v (.int .i64 c.length))), (17, .p (.sl 35 (c.map brPV))), (5, .ptr 1 []), (0, .p (.sl 1 bs))], [(1, .row 149 (.st [.slt 16 1 ((condB c x.1).map B)])), (16, .tail (condB c x.1).length)]⟩)
    (fun x => c.length - x.1) ⟨0, by omega⟩ (imp_less (by simp only [go_sem, condPV, I, ew]; simp only [condB_0, and_self])) fun ⟨i, hi⟩ => ?_
  have hle := condB_le hc i
  refine aw_reg rfl fun Khk5 hk5 => ?_
  simp only [go_sem, condPV, I, ew]
  refine hk5 _ ?_
  refine aw_seq fun Khk6 hk6 => ?_
  refine aw_cond rfl (fun cc7 => ?_) (fun cc7 => ?_)
  · have hlt : i < c.length := by simpa using cc7
    have hk := cOk_ix hc hlt
    have ek : IntKind.wrap .u64 ((ix c i).keys.length : Int) = (ix c i).keys.length := wrap_u64 (by omega) (by omega)
    refine aw_skip ?_
    refine hk6 _ ?_
    refine aw_seq fun Khk8 hk8 => ?_
    refine aw_block ?_
    refine aw_reg rfl fun Khk9 hk9 => ?_
    simp only [go_sem, condPV, I, ew, hlt, ix_map, ek, brPV, hk.2]
    refine hk9 _ ?_
    refine aw_reg rfl fun Khk10 hk10 => ?_
    simp only [go_sem, condPV, I, ew, hlt, ix_map, ek, brPV, hk.2]
    refine bcall (uintP (ix c i).keys.length ((condB c i).map B) (by omega) (by omega) (by simp; omega)) (by simp only [go_sem, condPV, I, ew, hlt, ix_map, ek, brPV, hk.2]) (by simp [idsOk, allDead, idsOf, refsIn, AV.refs, AV.refsL]) (by simp only [go_sem]) (by simp only [go_sem, condPV, I, ew, hlt, ix_map, ek, brPV, hk.2]) (by simp only [go_sem, condPV, I, ew, hlt, ix_map, ek, brPV, hk.2]) ?_
    simp only [go_sem, condPV, I, ew, hlt, ix_map, ek, brPV, hk.2]
    refine hk10 _ ?_
    refine aw_seq fun Khk11 hk11 => ?_
    refine aw_reg rfl fun Khk12 hk12 => ?_
    simp only [go_sem, condPV, I, ew, hlt, ix_map, ek, brPV, hk.2]
    refine hk12 _ ?_
    refine aw_block ?_
    refine aw_loop (α := {j : Nat // j ≤ (ix c i).keys.length})
      (fun x => ⟨59, [(32, .p (.v (.int .i64 x.1))), (31, .p (.v (.int .i64 (ix c i).keys.length))), (30, .p (.sl 1 ((ix c i).keys.map I))), (7, .ptr 7 []), (19, .p (.v (.int .i64 i))), (18, .p (.v (.int .i64 c.length))), (17, .p (.sl 35 (c.map brPV))), (5, .ptr 1 []), (0, .p (.sl 1 bs))], [(7, .row 89 (.p (brPV (ix c i)))), (1, .row 149 (.st [.slt 16 1 ((condB c i ++ brK (ix c i) x.1).map B)])), (16, .tail (condB c i ++ brK (ix c i) x.1).length)]⟩)
      (fun x => (ix c i).keys.length - x.1) ⟨0, by omega⟩ (imp_less (by simp only [go_sem, condPV, I, ew, hlt, ix_map, ek, brPV, hk.2]; simp only [brK_0, List.map_append, List.length_append, and_self])) fun ⟨j, hj⟩ => ?_
    have hbk := brK_le hk.1 j
    refine aw_reg rfl fun Khk13 hk13 => ?_
    simp only [go_sem, condPV, I, ew, hlt, ix_map, ek, brPV, hk.2]
    refine hk13 _ ?_
    refine aw_seq fun Khk14 hk14 => ?_
    refine aw_cond rfl (fun cc15 => ?_) (fun cc15 => ?_)
    · have hj2 : j < (ix c i).keys.length := by simpa using cc15
      have eu : IntKind.wrap .u64 (ix (ix c i).keys j) = u64 (ix (ix c i).keys j) := rfl
      refine aw_skip ?_
      refine hk14 _ ?_
      refine aw_seq fun Khk16 hk16 => ?_
      refine aw_block ?_
      refine aw_reg rfl fun Khk17 hk17 => ?_
      simp only [go_sem, condPV, I, ew, hlt, ix_map, ek, brPV, hk.2, hj2, eu]
      refine hk17 _ ?_
      refine aw_reg_last rfl fun Khk18 hk18 => ?_
      simp only [go_sem, condPV, I, ew, hlt, ix_map, ek, brPV, hk.2, hj2, eu]
      refine bcall (uintP (u64 (ix (ix c i).keys j)) ((condB c i ++ brK (ix c i) j).map B) (u64_0 _) (u64_1 _) (by simp; omega)) (by simp only [go_sem, condPV, I, ew, hlt, ix_map, ek, brPV, hk.2, hj2, eu]) (by simp [idsOk, allDead, idsOf, refsIn, AV.refs, AV.refsL]) (by simp only [go_sem]) (by simp only [go_sem, condPV, I, ew, hlt, ix_map, ek, brPV, hk.2, hj2, eu]) (by simp only [go_sem, condPV, I, ew, hlt, ix_map, ek, brPV, hk.2, hj2, eu]) ?_
      simp only [go_sem, condPV, I, ew, hlt, ix_map, ek, brPV, hk.2, hj2, eu]
      refine hk18 _ ?_
      refine hk16 _ ?_
      refine aw_reg_last rfl fun Khk19 hk19 => ?_
      simp only [go_sem, condPV, I, ew, hlt, ix_map, ek, brPV, hk.2, hj2, eu]
      refine hk19 _ ?_
      refine ⟨⟨j + 1, hj2⟩, imp_less (by simp only [go_sem, condPV, I, ew, hlt, ix_map, ek, brPV, hk.2, hj2, eu]; simp only [brK_succ hj2, List.map_append, List.length_append, List.append_assoc, Nat.add_assoc, true_and, and_true]; exact le_int (wrap_i64 (by omega) (by omega))), by simp only; omega⟩
    · have hj3 : j = (ix c i).keys.length := by simp at cc15; omega
      subst hj3
      have hh1 := uintB_le (u64 (ix c i).after)
      have eu1 : IntKind.wrap .u64 (ix c i).after = u64 (ix c i).after := rfl
      have eu2 : IntKind.wrap .u64 (ix c i).older = u64 (ix c i).older := rfl
      refine aw_exit ?_
      refine hk11 _ ?_
      refine aw_draw_last _ (by kernel_rfl) rfl rfl fun Jhk20 hk20 => ?_
      simp only [go_sem, condPV, I, ew, hlt, ix_map, ek, brPV, hk.2, eu1, eu2]
      refine ccall (hashP ((condB c i ++ brK (ix c i) (ix c i).keys.length).map B) (ix c i).lock hk.2 (by simp; omega)) (by simp only [go_sem, condPV, I, ew, hlt, ix_map, ek, brPV, hk.2, eu1, eu2]) (by simp [idsOk, allDead, idsOf, refsIn, AV.refs, AV.refsL]) (by simp only [go_sem, hk.2]) (by simp only [go_sem, condPV, I, ew, hlt, ix_map, ek, brPV, hk.2, eu1, eu2]) ?_
      simp only [go_sem, condPV, I, ew, hlt, ix_map, ek, brPV, hk.2, eu1, eu2]
      refine ccall (uintP (u64 (ix c i).after) ((condB c i ++ brK (ix c i) (ix c i).keys.length).map B ++ (ix c i).lock.map B) (u64_0 _) (u64_1 _) (by simp; omega)) (by simp only [go_sem, condPV, I, ew, hlt, ix_map, ek, brPV, hk.2, eu1, eu2]) (by simp [idsOk, allDead, idsOf, refsIn, AV.refs, AV.refsL]) (by simp only [go_sem, hk.2]) (by simp only [go_sem, condPV, I, ew, hlt, ix_map, ek, brPV, hk.2, eu1, eu2]) ?_
      simp only [go_sem, condPV, I, ew, hlt, ix_map, ek, brPV, hk.2, eu1, eu2]
      refine ccall (uintP (u64 (ix c i).older) ((condB c i ++ brK (ix c i) (ix c i).keys.length).map B ++ (ix c i).lock.map B ++ (uintB (u64 (ix c i).after)).map B) (u64_0 _) (u64_1 _) (by simp; omega)) (by simp only [go_sem, condPV, I, ew, hlt, ix_map, ek, brPV, hk.2, eu1, eu2]) (by simp [idsOk, allDead, idsOf, refsIn, AV.refs, AV.refsL]) (by simp only [go_sem, hk.2, Nat.add_assoc]) (by simp only [go_sem, condPV, I, ew, hlt, ix_map, ek, brPV, hk.2, eu1, eu2]) ?_
      simp only [go_sem, condPV, I, ew, hlt, ix_map, ek, brPV, hk.2, eu1, eu2]
      refine hk20 _ _ _ ⟨by kernel_rfl, by first | exact trivial | (simp only [go_sem, condPV, I, ew, hlt, ix_map, ek, brPV, hk.2, eu1, eu2])⟩ ?_
      refine hk8 _ ?_
      refine aw_reg_last rfl fun Khk21 hk21 => ?_
      simp only [go_sem, condPV, I, ew, hlt, ix_map, ek, brPV, hk.2, eu1, eu2]
      refine hk21 _ ?_
      refine ⟨⟨i + 1, hlt⟩, imp_less (by simp only [go_sem, condPV, I, ew, hlt, ix_map, ek, brPV, hk.2, eu1, eu2]; simp only [condB_succ hlt, brB_eq, List.map_append, List.length_append, List.append_assoc, Nat.add_assoc, true_and, and_true]; exact ⟨le_int (wrap_i64 (by omega) (by omega)), by rw [hk.2]⟩), by simp only; omega⟩
  · have hle2 : i = c.length := by simp at cc7; omega
    subst hle2
    have hpl : (putB c).length = (condB c c.length).length := rfl
    have hle3 := condB_le hc c.length
    have hle4 : 0 < (condB c c.length).length := by simp [condB, uintB_len]; omega
    refine aw_exit ?_
    refine hk3 _ ?_
    refine aw_reg rfl fun Khk22 hk22 => ?_
    simp only [go_sem, condPV, I, ew, putB, List.flatten_cons, List.flatten_nil, List.append_nil]
    refine bcall (doneP ((putB c).map B) (by simp; omega)) (by simp only [go_sem, condPV, I, ew, putB, List.flatten_cons, List.flatten_nil, List.append_nil]) (by simp [idsOk, allDead, idsOf, refsIn, AV.refs, AV.refsL]) (by simp only [go_sem, putB]) (by simp only [go_sem, condPV, I, ew, putB, List.flatten_cons, List.flatten_nil, List.append_nil]) (by simp only [go_sem, condPV, I, ew, putB, List.flatten_cons, List.flatten_nil, List.append_nil]) ?_
    simp only [go_sem, condPV, I, ew, putB, List.flatten_cons, List.flatten_nil, List.append_nil]
    refine bcall (concat_calls [bs, (putB c).map B] (by simp [sumN, hpl]; omega) (by simp [sumN]; omega) (by simp)) (by simp only [go_sem, condPV, I, ew, putB, List.flatten_cons, List.flatten_nil, List.append_nil]) (by simp [idsOk, allDead, idsOf, refsIn, AV.refs, AV.refsL]) (by simp only [go_sem]) (by simp only [go_sem, condPV, I, ew, putB, List.flatten_cons, List.flatten_nil, List.append_nil]) (by simp only [go_sem, condPV, I, ew, putB, List.flatten_cons, List.flatten_nil, List.append_nil]) ?_
    simp only [go_sem, condPV, I, ew, putB, List.flatten_cons, List.flatten_nil, List.append_nil]
    refine hk22 _ ?_
    refine aw_ret ?_
    refine ret_tmp ?_ trivial
    simp only [go_sem, condPV, I, ew, putB, List.flatten_cons, List.flatten_nil, List.append_nil]

end Go.Proofs.YtlfincjibiihaaaDoor
end

section
namespace Go.Proofs.YtlfincjibiihaaaDoor
open Go Go.Av Go.Proofs
set_option linter.unusedVariables false
set_option linter.unusedSimpArgs false
set_option linter.unusedSectionVars false
theorem bla_spec : ∀ (f x : Nat), x < 2 ^ f → x < 2 ^ Lib.bitLenAux f x ∧ (0 < x → 2 ^ Lib.bitLenAux f x ≤ 2 * x) ∧ (x = 0 → Lib.bitLenAux f x = 0)
  | 0, x, h => by
    have : x = 0 := by simpa using h
    subst this; simp [Lib.bitLenAux]
  | f + 1, x, h => by
    simp only [Lib.bitLenAux]
    by_cases h0 : x = 0
    · simp [h0]
    · rw [if_neg h0]
      have hx : x / 2 < 2 ^ f := by rw [Nat.pow_succ] at h; omega
      obtain ⟨a, b, c⟩ := bla_spec f (x / 2) hx
      rw [show 1 + Lib.bitLenAux f (x / 2) = Lib.bitLenAux f (x / 2) + 1 by omega, Nat.pow_succ]
      refine ⟨by omega, fun _ => ?_, fun e => absurd e h0⟩
      by_cases h1 : x / 2 = 0
      · rw [c h1]; simp; omega
      · have := b (by omega); omega
theorem wid_spec {n : Nat} (h : n < 2 ^ 64) : n < 256 ^ ((Lib.bitLen n + 7) / 8) ∧ ∀ k, (Lib.bitLen n + 7) / 8 = k + 1 → 256 ^ k ≤ n := by
  obtain ⟨a, b, c⟩ := bla_spec 64 n h
  unfold Lib.bitLen
  have e : (256 : Nat) = 2 ^ 8 := by decide
  rw [e]
  refine ⟨?_, fun k hk => ?_⟩
  · rw [← Nat.pow_mul]
    exact Nat.lt_of_lt_of_le a (Nat.pow_le_pow_right (by decide) (by omega))
  · rw [← Nat.pow_mul]
    have hn : 0 < n := by
      rcases Nat.eq_zero_or_pos n with h0 | h0
      · have := c h0; omega
      · exact h0
    have := b hn
    have h2 : 2 ^ (8 * k + 1) ≤ 2 ^ Lib.bitLenAux 64 n := Nat.pow_le_pow_right (by decide) (by omega)
    rw [Nat.pow_succ] at h2
    omega
theorem dig_eq : ∀ (k n : Nat), n < 256 ^ k → (∀ j, k = j + 1 → 256 ^ j ≤ n) → dig n = (List.range k).reverse.map fun i => ((n / 256 ^ i % 256 : Nat) : Int)
  | 0, n, h, _ => by
    have : n = 0 := by simpa using h
    subst this; simp [dig_zero]
  | k + 1, n, h, h2 => by
    have h3 := h2 k rfl
    have h4 : 0 < 256 ^ k := Nat.pow_pos (by decide)
    rw [dig_pos (by omega), List.range_succ_eq_map, List.reverse_cons, List.map_append, dig_eq k (n / 256) (by rw [Nat.pow_succ] at h; omega) (fun j hj => by subst hj; rw [Nat.pow_succ] at h3; omega)]
    simp only [List.map_reverse, List.map_map, List.map_cons, List.map_nil, Nat.pow_zero, Nat.div_one, Function.comp_def, Nat.pow_succ]
    congr 3
    funext i
    rw [Nat.div_div_eq_div_mul, Nat.mul_comm]
theorem uintB_eq (n : Nat) (h : n < 18446744073709551616) : uintB (n : Int) = uintR n := by
  obtain ⟨a, b⟩ := wid_spec (n := n) (by simpa using h)
  have e := dig_eq (wid n) n (by simpa [wid] using a) (fun j hj => b j (by simpa [wid] using hj))
  have e2 : dgs (n : Int) (wid n) 0 = dig n := by
    rw [e]
    unfold dgs
    rw [List.drop_zero]
    refine List.map_congr_left fun i _ => ?_
    simp only [byteAt, Int.natCast_emod, Int.natCast_ediv, Int.natCast_pow]
    rfl
  rw [uintB, uintR, e2, ← e2, dgs_len]
  simp

set_option maxRecDepth 100000 in
set_option maxHeartbeats 2000000 in
theorem refUintN (xs : List PV) (n : Nat) (hn : n < 18446744073709551616) (hl : xs.length ≤ 100000000) : ACalls Tryd.prog 52 [.p (.sl 1 xs), .p (.v (.int .u64 n))] [] (.p (.sl 1 (xs ++ (uintR n).map B))) [] := by
  refine acalls_of (fn := Tryd.f52) Tryd.func52 rfl (by decide) (n := 17) rfl (by simp) (by simp) (by simp [idsOf]) (by simp [idsOf]) ?_
  simp only [argT]
  have h8 := dig_len hn
  have e8 : IntKind.wrap .u8 ((dig n).length : Int) = (dig n).length := wrap_u8 (by omega) (by omega)
  refine aw_reg rfl fun Khk1 hk1 => ?_
  simp only [go_sem, e8]
  refine hk1 _ ?_
  refine aw_reg rfl fun Khk2 hk2 => ?_
  simp only [go_sem, e8]
  refine bcall0 (digits_calls n hn) (by simp only [go_sem, e8]) rfl (by simp only [go_sem, e8]) ?_
  simp only [go_sem, e8]
  refine hk2 _ ?_
  refine aw_reg rfl fun Khk3 hk3 => ?_
  simp only [go_sem, e8]
  refine bcall (own_calls xs (by omega)) (by simp only [go_sem, e8]) (by simp [idsOk, allDead, idsOf, refsIn, AV.refs, AV.refsL]) (by simp only [go_sem]) (by simp only [go_sem, e8]) (by simp only [go_sem, e8]) ?_
  simp only [go_sem, e8]
  refine ⟨by omega, by omega, ?_⟩
  refine hk3 _ ?_
  refine aw_ret ?_
  refine ret_tmp ?_ trivial
  simp only [go_sem, e8]
  exact le_sltE (by simp [uintR, B])

set_option maxRecDepth 100000 in
set_option maxHeartbeats 2000000 in
theorem refHashP (xs : List PV) (h : List Int) (hh : h.length = 32) (hl : xs.length ≤ 100000000) : ACalls Tryd.prog 53 [.p (.sl 1 xs), .p (.ints .u8 32 h)] [] (.p (.sl 1 (xs ++ h.map B))) [] := by
  refine acalls_of (fn := Tryd.f53) Tryd.func53 rfl (by decide) (n := 9) rfl (by simp) (by simp) (by simp [idsOf]) (by simp [idsOf]) ?_
  simp only [argT]
  refine aw_reg rfl fun Khk1 hk1 => ?_
  simp only [go_sem, hh]
  refine hk1 _ ?_
  refine aw_draw _ (by kernel_rfl) rfl rfl fun Jhk2 hk2 => ?_
  simp only [go_sem, hh]
  refine ccall (own_calls xs (by omega)) (by simp only [go_sem, hh]) (by simp [idsOk, allDead, idsOf, refsIn, AV.refs, AV.refsL]) (by simp only [go_sem]) (by simp only [go_sem, hh]) ?_
  simp only [go_sem, hh]
  refine ⟨by omega, ?_⟩
  refine hk2 _ _ _ ⟨by kernel_rfl, by first | exact trivial | (simp only [go_sem, hh])⟩ ?_
  refine aw_ret ?_
  refine ret_tmp ?_ trivial
  simp only [go_sem, hh]
  exact le_sltE (by simp [B])

theorem refUintP (xs : List PV) (x : Int) (h0 : 0 ≤ x) (h1 : x ≤ 18446744073709551615) (hl : xs.length ≤ 100000000) : ACalls Tryd.prog 52 [.p (.sl 1 xs), .p (.v (.int .u64 x))] [] (.p (.sl 1 (xs ++ (uintB x).map B))) [] := by
  obtain ⟨n, rfl⟩ : ∃ n : Nat, x = n := ⟨x.toNat, by omega⟩
  rw [uintB_eq n (by omega)]
  exact refUintN xs n (by omega) hl

end Go.Proofs.YtlfincjibiihaaaDoor
end

section
namespace Go.Proofs.YtlfincjibiihaaaDoor
open Go Go.Av Go.Proofs
set_option linter.unusedVariables false
set_option linter.unusedSimpArgs false
set_option linter.unusedSectionVars false
set_option maxRecDepth 100000 in
set_option maxHeartbeats 2000000 in
theorem refPut_calls (bs : List PV) (c : List Br) (hb : bs.length ≤ 10000000) (hc : cOk c) : ACalls Tryd.prog 19 [.p (.sl 1 bs), .p (condPV c)] [] (.p (.sl 1 (bs ++ (putB c).map B))) [] := by
  refine acalls_of (fn := Tryd.f19) Tryd.func19 rfl (by decide) (n := 63) rfl (by simp) (by simp) (by simp [idsOf]) (by simp [idsOf]) ?_
  simp only [argT]
  have hcl := csz_len c
  have hc1 := hc.1
  have ew : IntKind.wrap .u64 (c.length : Int) = c.length := wrap_u64 (by omega) (by omega)
  refine aw_reg rfl fun Khk1 hk1 => ?_
  simp only [go_sem, condPV, I, ew]
  refine hk1 _ ?_
  refine aw_reg rfl fun Khk2 hk2 => ?_
  simp only [go_sem, condPV, I, ew]
  refine hk2 _ ?_
  refine aw_draw _ (by kernel_rfl) rfl rfl fun Jhk3 hk3 => ?_
  simp only [go_sem, condPV, I, ew]
  refine ⟨by omega, ?_⟩
  refine ccall0 (refUintP bs c.length (by omega) (by omega) (by omega)) (by simp only [go_sem, condPV, I, ew]) rfl (by simp only [go_sem, condPV, I, ew]) ?_
  simp only [go_sem, condPV, I, ew]
  refine hk3 _ _ _ ⟨by kernel_rfl, by first | exact trivial | (simp only [go_sem, condPV, I, ew])⟩ ?_
  refine aw_seq fun Khk4 hk4 => ?_
  refine aw_reg rfl fun Khk5 hk5 => ?_
  simp only [go_sem, condPV, I, ew]
  refine hk5 _ ?_
  refine aw_block ?_
  refine aw_loop (α := {i : Nat // i ≤ c.length})
    (fun x => ⟨63, [(6, .p (.v (.int .i64 x.1))), (3, .ptr 3 []), (5, .p (.sl 1 (bs ++ (condB c x.1).map B)))], [(3, .row 24 (.p (condPV c)))]⟩)
    (fun x => c.length - x.1) ⟨0, by omega⟩ (imp_less (by simp only [go_sem, condPV, I, ew]; simp only [condB_0, le_refl', and_self])) fun ⟨i, hi⟩ => ?_
  have hle := condB_le hc i
  refine aw_seq fun Khk6 hk6 => ?_
  refine aw_reg rfl fun Khk7 hk7 => ?_
  simp only [go_sem, condPV, I, ew]
  refine hk7 _ ?_
  refine aw_cond rfl (fun cc8 => ?_) (fun cc8 => ?_)
  · have hlt : i < c.length := by simpa using cc8
    have hk := cOk_ix hc hlt
    have ek : IntKind.wrap .u64 ((ix c i).keys.length : Int) = (ix c i).keys.length := wrap_u64 (by omega) (by omega)
    refine aw_skip ?_
    refine hk6 _ ?_
    refine aw_seq fun Khk9 hk9 => ?_
    refine aw_block ?_
    refine aw_reg rfl fun Khk10 hk10 => ?_
    simp only [go_sem, condPV, I, ew, hlt, ix_map, ek, brPV, hk.2]
    refine hk10 _ ?_
    refine aw_reg rfl fun Khk11 hk11 => ?_
    simp only [go_sem, condPV, I, ew, hlt, ix_map, ek, brPV, hk.2]
    refine bcall0 (refUintP (bs ++ (condB c i).map B) (ix c i).keys.length (by omega) (by omega) (by simp; omega)) (by simp only [go_sem, condPV, I, ew, hlt, ix_map, ek, brPV, hk.2]) rfl (by simp only [go_sem, condPV, I, ew, hlt, ix_map, ek, brPV, hk.2]) ?_
    simp only [go_sem, condPV, I, ew, hlt, ix_map, ek, brPV, hk.2]
    refine hk11 _ ?_
    refine aw_seq fun Khk12 hk12 => ?_
    refine aw_reg rfl fun Khk13 hk13 => ?_
    simp only [go_sem, condPV, I, ew, hlt, ix_map, ek, brPV, hk.2]
    refine hk13 _ ?_
    refine aw_block ?_
    refine aw_loop (α := {j : Nat // j ≤ (ix c i).keys.length})
      (fun x => ⟨63, [(8, .p (.v (.int .i64 x.1))), (7, .ptr 7 []), (6, .p (.v (.int .i64 i))), (3, .ptr 3 []), (5, .p (.sl 1 (bs ++ (condB c i).map B ++ (brK (ix c i) x.1).map B)))], [(7, .row 88 (.p (brPV (ix c i)))), (3, .row 24 (.p (condPV c)))]⟩)
      (fun x => (ix c i).keys.length - x.1) ⟨0, by omega⟩ (imp_less (by simp only [go_sem, condPV, I, ew, hlt, ix_map, ek, brPV, hk.2]; simp only [brK_0, List.map_append, List.append_assoc, le_refl', and_self])) fun ⟨j, hj⟩ => ?_
    have hbk := brK_le hk.1 j
    refine aw_seq fun Khk14 hk14 => ?_
    refine aw_reg rfl fun Khk15 hk15 => ?_
    simp only [go_sem, condPV, I, ew, hlt, ix_map, ek, brPV, hk.2]
    refine hk15 _ ?_
    refine aw_cond rfl (fun cc16 => ?_) (fun cc16 => ?_)
    · have hj2 : j < (ix c i).keys.length := by simpa using cc16
      have eu : IntKind.wrap .u64 (ix (ix c i).keys j) = u64 (ix (ix c i).keys j) := rfl
      refine aw_skip ?_
      refine hk14 _ ?_
      refine aw_seq fun Khk17 hk17 => ?_
      refine aw_block ?_
      refine aw_reg_last rfl fun Khk18 hk18 => ?_
      simp only [go_sem, condPV, I, ew, hlt, ix_map, ek, brPV, hk.2, hj2, eu]
      refine bcall0 (refUintP (bs ++ (condB c i).map B ++ (brK (ix c i) j).map B) (u64 (ix (ix c i).keys j)) (u64_0 _) (u64_1 _) (by simp; omega)) (by simp only [go_sem, condPV, I, ew, hlt, ix_map, ek, brPV, hk.2, hj2, eu]) rfl (by simp only [go_sem, condPV, I, ew, hlt, ix_map, ek, brPV, hk.2, hj2, eu]) ?_
      simp only [go_sem, condPV, I, ew, hlt, ix_map, ek, brPV, hk.2, hj2, eu]
      refine hk18 _ ?_
      refine hk17 _ ?_
      refine aw_reg_last rfl fun Khk19 hk19 => ?_
      simp only [go_sem, condPV, I, ew, hlt, ix_map, ek, brPV, hk.2, hj2, eu]
      refine hk19 _ ?_
      refine ⟨⟨j + 1, hj2⟩, imp_less (by simp only [go_sem, condPV, I, ew, hlt, ix_map, ek, brPV, hk.2, hj2, eu]; simp only [brK_succ hj2, List.map_append, List.append_assoc, le_refl', true_and, and_true]; exact le_int (wrap_i64 (by omega) (by omega))), by simp only; omega⟩
    · have hj3 : j = (ix c i).keys.length := by simp at cc16; omega
      subst hj3
      have hh1 := uintB_le (u64 (ix c i).after)
      have eu1 : IntKind.wrap .u64 (ix c i).after = u64 (ix c i).after := rfl
      have eu2 : IntKind.wrap .u64 (ix c i).older = u64 (ix c i).older := rfl
      refine aw_exit ?_
      refine hk12 _ ?_
      refine aw_draw_last _ (by kernel_rfl) rfl rfl fun Jhk20 hk20 => ?_
      simp only [go_sem, condPV, I, ew, hlt, ix_map, ek, brPV, hk.2, eu1, eu2]
      refine ccall0 (refHashP (bs ++ (condB c i).map B ++ (brK (ix c i) (ix c i).keys.length).map B) (ix c i).lock hk.2 (by simp; omega)) (by simp only [go_sem, condPV, I, ew, hlt, ix_map, ek, brPV, hk.2, eu1, eu2]) rfl (by simp only [go_sem, condPV, I, ew, hlt, ix_map, ek, brPV, hk.2, eu1, eu2]) ?_
      simp only [go_sem, condPV, I, ew, hlt, ix_map, ek, brPV, hk.2, eu1, eu2]
      refine ccall0 (refUintP (bs ++ (condB c i).map B ++ (brK (ix c i) (ix c i).keys.length).map B ++ (ix c i).lock.map B) (u64 (ix c i).after) (u64_0 _) (u64_1 _) (by simp; omega)) (by simp only [go_sem, condPV, I, ew, hlt, ix_map, ek, brPV, hk.2, eu1, eu2]) rfl (by simp only [go_sem, condPV, I, ew, hlt, ix_map, ek, brPV, hk.2, eu1, eu2]) ?_
      simp only [go_sem, condPV, I, ew, hlt, ix_map, ek, brPV, hk.2, eu1, eu2]
      refine ccall0 (refUintP (bs ++ (condB c i).map B ++ (brK (ix c i) (ix c i).keys.length).map B ++ (ix c i).lock.map B ++ (uintB (u64 (ix c i).after)).map B) (u64 (ix c i).older) (u64_0 _) (u64_1 _) (by simp; omega)) (by simp only [go_sem, condPV, I, ew, hlt, ix_map, ek, brPV, hk.2, eu1, eu2]) rfl (by simp only [go_sem, condPV, I, ew, hlt, ix_map, ek, brPV, hk.2, eu1, eu2]) ?_
      simp only [go_sem, condPV, I, ew, hlt, ix_map, ek, brPV, hk.2, eu1, eu2]
      refine hk20 _ _ _ ⟨by kernel_rfl, by first | exact trivial | (simp only [go_sem, condPV, I, ew, hlt, ix_map, ek, brPV, hk.2, eu1, eu2])⟩ ?_
      refine hk9 _ ?_
      refine aw_reg_last rfl fun Khk21 hk21 => ?_
      simp only [go_sem, condPV, I, ew, hlt, ix_map, ek, brPV, hk.2, eu1, eu2]
      refine hk21 _ ?_
      refine ⟨⟨i + 1, hlt⟩, imp_less (by simp only [go_sem, condPV, I, ew, hlt, ix_map, ek, brPV, hk.2, eu1, eu2]; simp only [condB_succ hlt, brB_eq, List.map_append, List.append_assoc, le_refl', true_and, and_true]; exact le_int (wrap_i64 (by omega) (by omega))), by simp only; omega⟩
  · have hle2 : i = c.length := by simp at cc8; omega
    subst hle2
    refine aw_exit ?_
    refine hk4 _ ?_
    refine aw_reg rfl fun Khk22 hk22 => ?_
    simp only [go_sem, condPV, I, ew, putB]
    refine hk22 _ ?_
    refine aw_ret ?_
    refine ret_tmp ?_ trivial
    simp only [go_sem, condPV, I, ew, putB]

end Go.Proofs.YtlfincjibiihaaaDoor
end

section
namespace Go.Proofs
open Go.Shelf
def Tryd.l_ren : Go.Shelf.Ren := ⟨fun | 5 => 45 | 8 => 85 | 7 => 84 | 19 => 115 | 20 => 116 | 10 => 106 | 11 => 107 | 12 => 108 | 13 => 109 | 14 => 110 | 15 => 111 | 16 => 112 | 17 => 113 | 18 => 114 | 30 => 119 | 31 => 120 | 32 => 121 | 33 => 122 | 34 => 123 | 35 => 98 | 40 => 125 | n => n, fun | 23 => 25 | 25 => 3 | 3 => 3 | 32 => 42 | 22 => 25 | 0 => 0 | 44 => 158 | 46 => 105 | 4 => 4 | 36 => 186 | 35 => 185 | 41 => 191 | 5 => 5 | 9 => 9 | 53 => 198 | 57 => 202 | 63 => 211 | 64 => 64 | n => n, fun | n => n⟩
theorem Tryd.l : Go.Proofs.SlLaysM.n5 Tryd.prog Tryd.l_ren := {
  mixed := by kernel_rfl,
  f5 := ⟨Tryd.f45.name, by decide, Tryd.func45.trans (congrArg some (by kernel_rfl))⟩,
  f7 := ⟨Tryd.f84.name, by decide, Tryd.func84.trans (congrArg some (by kernel_rfl))⟩,
  f8 := Tryd.func85.trans (congrArg some (by kernel_rfl)),
  f10 := ⟨Tryd.f106.name, by decide, Tryd.func106.trans (congrArg some (by kernel_rfl))⟩,
  f11 := ⟨Tryd.f107.name, by decide, Tryd.func107.trans (congrArg some (by kernel_rfl))⟩,
  f12 := ⟨Tryd.f108.name, by decide, Tryd.func108.trans (congrArg some (by kernel_rfl))⟩,
  f13 := ⟨Tryd.f109.name, by decide, Tryd.func109.trans (congrArg some (by kernel_rfl))⟩,
  f14 := ⟨Tryd.f110.name, by decide, Tryd.func110.trans (congrArg some (by kernel_rfl))⟩,
  f15 := ⟨Tryd.f111.name, by decide, Tryd.func111.trans (congrArg some (by kernel_rfl))⟩,
  f16 := ⟨Tryd.f112.name, by decide, Tryd.func112.trans (congrArg some (by kernel_rfl))⟩,
  f17 := ⟨Tryd.f113.name, by decide, Tryd.func113.trans (congrArg some (by kernel_rfl))⟩,
  f18 := ⟨Tryd.f114.name, by decide, Tryd.func114.trans (congrArg some (by kernel_rfl))⟩,
  f19 := Tryd.func115.trans (congrArg some (by kernel_rfl)),
  f20 := Tryd.func116.trans (congrArg some (by kernel_rfl)),
  f30 := ⟨Tryd.f119.name, by decide, Tryd.func119.trans (congrArg some (by kernel_rfl))⟩,
  f31 := Tryd.func120.trans (congrArg some (by kernel_rfl)),
  f32 := Tryd.func121.trans (congrArg some (by kernel_rfl)),
  f33 := ⟨Tryd.f122.name, by decide, Tryd.func122.trans (congrArg some (by kernel_rfl))⟩,
  f34 := ⟨Tryd.f123.name, by decide, Tryd.func123.trans (congrArg some (by kernel_rfl))⟩,
  f35 := ⟨Tryd.f98.name, by decide, Tryd.func98.trans (congrArg some (by kernel_rfl))⟩,
  f40 := ⟨Tryd.f125.name, by decide, Tryd.func125.trans (congrArg some (by kernel_rfl))⟩,
  t0 := Tryd.underlying0,
  a0 := Tryd.isAgg0,
  z0 := Tryd.sizeOf0,
  v0 := Tryd.zeroValue0,
  t3 := Tryd.underlying3,
  a3 := Tryd.isAgg3,
  z3 := Tryd.sizeOf3,
  v3 := Tryd.zeroValue3,
  t4 := Tryd.underlying4,
  a4 := Tryd.isAgg4,
  z4 := Tryd.sizeOf4,
  v4 := Tryd.zeroValue4,
  t5 := Tryd.underlying5,
  a5 := Tryd.isAgg5,
  z5 := Tryd.sizeOf5,
  v5 := Tryd.zeroValue5,
  t9 := Tryd.underlying9,
  a9 := Tryd.isAgg9,
  z9 := Tryd.sizeOf9,
  v9 := Tryd.zeroValue9,
  t22 := Tryd.underlying25,
  a22 := Tryd.isAgg25,
  z22 := Tryd.sizeOf25,
  v22 := Tryd.zeroValue25,
  t23 := Tryd.underlying25,
  a23 := Tryd.isAgg25,
  z23 := Tryd.sizeOf25,
  v23 := Tryd.zeroValue25,
  t25 := Tryd.underlying3,
  a25 := Tryd.isAgg3,
  z25 := Tryd.sizeOf3,
  v25 := Tryd.zeroValue3,
  t32 := Tryd.underlying42,
  a32 := Tryd.isAgg42,
  z32 := Tryd.sizeOf42,
  v32 := Tryd.zeroValue42,
  t35 := Tryd.underlying185,
  a35 := Tryd.isAgg185,
  z35 := Tryd.sizeOf185,
  v35 := Tryd.zeroValue185,
  t36 := Tryd.underlying186,
  a36 := Tryd.isAgg186,
  z36 := Tryd.sizeOf186,
  v36 := Tryd.zeroValue186,
  t41 := Tryd.underlying191,
  a41 := Tryd.isAgg191,
  z41 := Tryd.sizeOf191,
  v41 := Tryd.zeroValue191,
  t44 := Tryd.underlying158,
  a44 := Tryd.isAgg158,
  z44 := Tryd.sizeOf158,
  v44 := Tryd.zeroValue158,
  t46 := Tryd.underlying105,
  a46 := Tryd.isAgg105,
  z46 := Tryd.sizeOf105,
  v46 := Tryd.zeroValue105,
  t53 := Tryd.underlying198,
  a53 := Tryd.isAgg198,
  z53 := Tryd.sizeOf198,
  v53 := Tryd.zeroValue198,
  t57 := Tryd.underlying202,
  a57 := Tryd.isAgg202,
  z57 := Tryd.sizeOf202,
  v57 := Tryd.zeroValue202,
  t63 := Tryd.underlying211,
  a63 := Tryd.isAgg211,
  z63 := Tryd.sizeOf211,
  v63 := Tryd.zeroValue211,
  t64 := Tryd.underlying64,
  a64 := Tryd.isAgg64,
  z64 := Tryd.sizeOf64,
  v64 := Tryd.zeroValue64 }
end Go.Proofs
namespace Go.Proofs.YtlfincjibiihaaaDoor
open Go Go.Av Go.Proofs
set_option linter.unusedVariables false
set_option linter.unusedSimpArgs false
set_option linter.unusedSectionVars false
/-- The library's sort, as a list. -/
def sortI (l : List Int) : List Int := l.mergeSort fun x y => decide (x ≤ y)
theorem sortI_len (l : List Int) : (sortI l).length = l.length := List.length_mergeSort l
theorem mapBlock_setRow {w : World} {blk : Nat} {f : Array Value → Array Value} {cs : Array Value} {e : TypeId} {fr : Nat × Nat} (h : w.heap[blk]? = some (.cells cs e fr)) : Sort.mapBlock w blk f = w.setRow blk (f cs) := by
  unfold Sort.mapBlock World.setRow
  congr 1
  apply Array.ext_getElem?
  intro k
  simp only [Array.getElem?_modify]
  by_cases hk : blk = k
  · subst hk
    simp [h, Sort.onCells]
  · simp [hk]
theorem fr_grow (w : World) (os : Array Obj) (n : Nat) : Fr (fun _ _ => False) w (Sort.grow (Sort.ahead w n) os) := by
  refine ⟨rfl, rfl, rfl, by simp [Sort.grow, Sort.ahead], fun b cs e fr hb => ⟨cs, ?_, rfl, fun _ _ => rfl⟩, fun b x hb _ _ => ?_⟩
  · have hlt := (Array.getElem?_eq_some_iff.1 hb).1
    rw [Sort.heap_grow_old _ _ (by simpa [Sort.ahead] using hlt)]
    exact hb
  · have hlt := (Array.getElem?_eq_some_iff.1 hb).1
    rw [Sort.heap_grow_old _ _ (by simpa [Sort.ahead] using hlt)]
    exact hb
theorem sort_calls (l : List Int) (hl : l.length < 1000000) : ACalls Tryd.prog 45 [.osl 1000 [] 1 l.length] [(1000, .row 3 (.p (.ints .i64 l.length l)))] (.tup []) [(1000, .row 3 (.p (.ints .i64 l.length (sortI l))))] := by
  refine ⟨by kernel_rfl, fun w F m vals hlen hvals hS => ?_⟩
  obtain ⟨v, rfl⟩ : ∃ v, vals = [v] := List.length_eq_one_iff.1 (by simpa using hlen)
  have hv := hvals 0 v _ rfl rfl
  have hH : hOf [(1000, .row 3 (.p (.ints .i64 l.length l)))] 1000 = .row 3 (.p (.ints .i64 l.length l)) := rfl
  obtain ⟨cap, hcap, _, rfl⟩ := hv.osl_val hH
  obtain ⟨cs, vs, g1, g2, g3, g4, g5⟩ := hS.row hH
  obtain ⟨rfl, _⟩ := g5.p_inv.ints_at
  simp only [List.length_map] at g3 g4
  have hsz : l.length ≤ cs.size := by have := congrArg List.length g4; simp at this; omega
  have hcell : ∀ j, j < l.length → w.cell? ⟨(m 1000).b, j, none⟩ = some (.int .i64 l.toArray[j]!) := fun j hj => by
    have := row_cells (vs := l.map (Value.int .i64)) g1 (by simpa using g4) j (.int .i64 l[j]) (by simp [hj])
    rw [this]
    simp [hj]
  have hHo : Sort.Holds (Value.int .i64) w (m 1000).b 0 l.toArray := fun j hj => by
    have hj' : j < l.length := by simpa using hj
    refine ⟨by rw [Nat.zero_add]; exact hcell j hj', ?_⟩
    simp [World.frozen?, g1]
  have hlt : (m 1000).b < w.heap.size := (Array.getElem?_eq_some_iff.1 g1).1
  have hcon := AnyM.slices_Sort_int Tryd.l (m 1000).b 0 cap l w hHo hlt (by omega)
  have hcon' : Calls Tryd.prog 45 #[.slice (some ⟨(m 1000).b, 0, none⟩) l.length cap] w _ := hcon
  refine hcon'.mono fun e w' ⟨he, n, os, hw⟩ => ?_
  have hset := hS.set (c' := .p (.ints .i64 l.length (sortI l))) (cs' := Sort.putCells (Value.int .i64) 0 (sortI l).toArray cs) hH g1 (by simp [Sort.putCells]) (fun o ho => by
      rw [g3] at ho
      simp only [Sort.putCells, Array.getElem?_mapIdx, List.size_toArray, sortI_len]
      cases hco : cs[o]? with
      | none => rfl
      | some x => simp; omega) rfl (by
      rw [g3]
      have : (Sort.putCells (Value.int .i64) 0 (sortI l).toArray cs).toList.take l.length = (sortI l).map (Value.int .i64) := by
        refine List.ext_getElem? fun j => ?_
        by_cases hj : j < l.length
        · have hj2 : j < (sortI l).length := by rw [sortI_len]; exact hj
          rw [List.getElem?_take, if_pos hj, Array.getElem?_toList]
          simp only [Sort.putCells, Array.getElem?_mapIdx, List.size_toArray, sortI_len, Array.getElem?_eq_getElem (show j < cs.size by omega), Option.map_some]
          simp [hj, hj2]
        · rw [List.getElem?_eq_none (by simp; omega), List.getElem?_eq_none (by simp [sortI_len]; omega)]
      rw [this]
      exact .p (.ints (sortI_len l)))
  obtain ⟨h1, h2, h3⟩ := hset
  have hwe : w' = Sort.grow (Sort.ahead (w.setRow (m 1000).b (Sort.putCells (Value.int .i64) 0 (sortI l).toArray cs)) n) os := by
    rw [hw]
    have : Sort.putRow (Value.int .i64) (Sort.ahead w n) (m 1000).b 0 (sortI l).toArray = Sort.ahead (w.setRow (m 1000).b (Sort.putCells (Value.int .i64) 0 (sortI l).toArray cs)) n := by
      rw [Sort.putRow_ahead]
      congr 1
      exact mapBlock_setRow g1
    rw [← this]
    rfl
  have hr : hOf [(1000, .row 3 (.p (.ints .i64 l.length (sortI l))))] = upd (hOf [(1000, .row 3 (.p (.ints .i64 l.length l)))]) 1000 (.row 3 (.p (.ints .i64 l.length (sortI l)))) := by
    funext j
    simp only [hOf, mods, List.foldl, upd]
    split <;> rfl
  have hfr := fr_grow (w.setRow (m 1000).b (Sort.putCells (Value.int .i64) 0 (sortI l).toArray cs)) os n
  rw [← hwe] at hfr
  refine ⟨_, m, he, RepV.tup (xs := []) rfl fun i x a hx => by simp at hx, ?_, h2.fr.trans hfr (fun _ _ _ h => h.elim), fun b o _ ho => h2.le b o ‹_› (by rw [← hr]; exact ho), fun id _ => by rw [hr]; exact h3 id⟩
  rw [hr]
  exact h1.grow (O := fun _ _ => False) hfr
end Go.Proofs.YtlfincjibiihaaaDoor
end

section
namespace Go.Proofs.YtlfincjibiihaaaDoor
open Go Go.Av Go.Proofs
set_option linter.unusedVariables false
set_option linter.unusedSimpArgs false
set_option linter.unusedSectionVars false
/-- A number that is the same as the one ahead of it, left out. -/
def ddN (l : List Int) : Nat → List Int
  | 0 => []
  | m + 1 => if m = 0 ∨ ix l m ≠ ix l (m - 1) then ddN l m ++ [ix l m] else ddN l m
def dedupI (l : List Int) : List Int := ddN l l.length
def cN (l : List Int) (m : Nat) : List Int := ddN l m ++ l.drop (ddN l m).length
theorem ddN_one {l : List Int} (h : 0 < l.length) : ddN l 1 = l.take 1 := by
  match l, h with
  | a :: l, _ => rfl
theorem ddN_ne {l : List Int} {j : Nat} (h : j + 1 < l.length) (hd : ddN l (j + 1) = l.take (j + 1)) (hn : ix l (j + 1) ≠ ix l j) : ddN l (j + 1 + 1) = l.take (j + 1 + 1) := by
  show (if j + 1 = 0 ∨ ix l (j + 1) ≠ ix l (j + 1 - 1) then ddN l (j + 1) ++ [ix l (j + 1)] else ddN l (j + 1)) = _
  rw [if_pos (.inr (by simpa using hn)), hd, List.take_succ_eq_append_getElem h, ix_get h]
theorem ddN_eq {l : List Int} {j : Nat} (hn : ix l (j + 1) = ix l j) : ddN l (j + 1 + 1) = ddN l (j + 1) := by
  show (if j + 1 = 0 ∨ ix l (j + 1) ≠ ix l (j + 1 - 1) then ddN l (j + 1) ++ [ix l (j + 1)] else ddN l (j + 1)) = _
  rw [if_neg (by simp [hn])]
theorem ddN_ne' {l : List Int} {j : Nat} (hn : ix l (j + 1) ≠ ix l j) : ddN l (j + 1 + 1) = ddN l (j + 1) ++ [ix l (j + 1)] := by
  show (if j + 1 = 0 ∨ ix l (j + 1) ≠ ix l (j + 1 - 1) then ddN l (j + 1) ++ [ix l (j + 1)] else ddN l (j + 1)) = _
  rw [if_pos (.inr (by simpa using hn))]
theorem ddN_len1 {l : List Int} (m : Nat) : (ddN l (m + 1)).length ≤ (ddN l m).length + 1 := by
  simp only [ddN]
  split <;> simp
theorem ddN_bound {l : List Int} {j : Nat} (hj : j + 1 < l.length) (h : ddN l (j + 1 + 1) = l.take (j + 1)) : ∀ p, (ddN l (j + 1 + (p + 1))).length ≤ j + 1 + p
  | 0 => by rw [show j + 1 + (0 + 1) = j + 1 + 1 by omega, h]; simp; omega
  | p + 1 => by
    have h1 := ddN_bound hj h p
    have h2 := ddN_len1 (l := l) (j + 1 + (p + 1))
    rw [show j + 1 + (p + 1) + 1 = j + 1 + (p + 1 + 1) by omega] at h2
    omega
theorem cN_len {l : List Int} {m : Nat} (h : (ddN l m).length ≤ l.length) : (cN l m).length = l.length := by simp [cN]; omega
theorem cN_get {l : List Int} {m i : Nat} (h : (ddN l m).length ≤ i) (hi : i < l.length) : (cN l m)[i]? = some (ix l i) := by
  unfold cN
  rw [List.getElem?_append_right h, List.getElem?_drop, ix_get hi, show (ddN l m).length + (i - (ddN l m).length) = i by omega, List.getElem?_eq_getElem hi]
theorem cN_start {l : List Int} {j : Nat} (hj : j + 1 < l.length) (h : ddN l (j + 1 + 1) = l.take (j + 1)) : cN l (j + 1 + 1) = l := by
  unfold cN
  rw [h, List.length_take, Nat.min_eq_left (by omega), List.take_append_drop]
theorem cN_set {l : List Int} {m : Nat} (h : (ddN l (m + 1)).length < l.length) (hn : ix l (m + 1) ≠ ix l m) : (cN l (m + 1)).set (ddN l (m + 1)).length (ix l (m + 1)) = cN l (m + 1 + 1) := by
  unfold cN
  rw [ddN_ne' hn, List.set_append_right _ _ (Nat.le_refl _), Nat.sub_self, List.drop_eq_getElem_cons h, List.set_cons_zero]
  simp
theorem dedup_small {l : List Int} (h : l.length < 2) : dedupI l = l.take l.length := by
  match l, h with
  | [], _ => rfl
  | [a], _ => rfl
theorem dedup_take {l : List Int} (k : Nat) : ((cN l l.length).take (dedupI l).length ++ (List.replicate k 0 ++ (cN l l.length).drop ((dedupI l).length + k))).take (dedupI l).length = dedupI l := by
  have : (cN l l.length).take (dedupI l).length = dedupI l := by
    unfold cN dedupI
    rw [List.take_left' rfl]
  rw [this, List.take_left' rfl]
theorem row_freeze {n : Nat} {ty : TypeId} {N m : Nat} {l : List Int} {r : List Int} {T : List (Nat × AV)} {H : List (Nat × AObj)} {t : Nat} (hH : lkH H 1000 = .row ty (.p (.ints .i64 N l))) (hT : lkT T t = .osl 1000 [] 1 m) (hm : m ≤ l.length) (hr : l.take m = r) : LS.imp ⟨n, T, H⟩ ⟨n, [(t, .p (.sl 1 (r.map I)))], []⟩ := by
  refine imp_freeze (id := 1000) (k := 1) (xs := l.map I) hH rfl rfl (fun p hp => ?_) (fun p hp => by cases hp) rfl
  simp at hp
  subst hp
  exact .inr ⟨m, by simpa using hm, hT, by simp [← hr, List.map_take]⟩
theorem imp_row {n : Nat} {T T' : List (Nat × AV)} {H : List (Nat × AObj)} {o : AObj} (hH : lkH H 1000 = o) (hT : lessT T T') : LS.imp ⟨n, T, H⟩ ⟨n, T', [(1000, o)]⟩ :=
  imp_less ⟨hT, ⟨hH, trivial⟩⟩

set_option maxRecDepth 100000 in
set_option maxHeartbeats 2000000 in
theorem compact_calls (l : List Int) (hl : l.length < 1000000) : ACalls Tryd.prog 46 [.osl 1000 [] 1 l.length] [(1000, .row 3 (.p (.ints .i64 l.length l)))] (.p (.sl 1 ((dedupI l).map I))) [] := by
  refine acalls_of (fn := Tryd.f46) Tryd.func46 rfl (by decide) (n := 61) rfl (by simp) (by simp) (by simp [idsOf]) (by simp [idsOf]) ?_
  simp only [argT]
  refine aw_reg rfl fun Khk1 hk1 => ?_
  simp only [go_sem, Int.natCast_one]
  refine hk1 _ ?_
  refine aw_seq fun Khk2 hk2 => ?_
  refine aw_reg rfl fun Khk3 hk3 => ?_
  simp only [go_sem, Int.natCast_one]
  refine hk3 _ ?_
  refine aw_cond rfl (fun cc4 => ?_) (fun cc4 => ?_)
  · have h2 : l.length < 2 := by simp at cc4; omega
    refine aw_reg rfl fun Khk5 hk5 => ?_
    simp only [go_sem, Int.natCast_one]
    refine hk5 _ ?_
    refine aw_imp (row_freeze (r := dedupI l) (m := l.length) (t := 2) rfl (by simp only [go_sem, Int.natCast_one]) (Nat.le_refl _) (dedup_small h2).symm) ?_
    refine aw_ret ?_
    refine ret_tmp ?_ trivial
    simp only [go_sem, Int.natCast_one]
  · have h2 : 2 ≤ l.length := by simp at cc4; omega
    refine aw_skip ?_
    refine hk2 _ ?_
    refine aw_seq fun Khk6 hk6 => ?_
    refine aw_reg rfl fun Khk7 hk7 => ?_
    simp only [go_sem, Int.natCast_one]
    refine hk7 _ ?_
    refine aw_block ?_
    refine aw_loop (α := {j : Nat // j + 1 ≤ l.length ∧ ddN l (j + 1) = l.take (j + 1)})
      (fun x => ⟨61, [(3, .p (.v (.int .i64 ((x.1 : Int) + 1)))), (0, .osl 1000 [] 1 l.length)], [(1000, .row 3 (.p (.ints .i64 l.length l)))]⟩)
      (fun x => l.length - x.1) ⟨0, by omega, ddN_one (by omega)⟩ (imp_less (by simp only [go_sem, Int.natCast_one])) fun ⟨j, hj, hd⟩ => ?_
    refine aw_seq fun Khk8 hk8 => ?_
    refine aw_reg rfl fun Khk9 hk9 => ?_
    simp only [go_sem, Int.natCast_one]
    refine hk9 _ ?_
    refine aw_cond rfl (fun cc10 => ?_) (fun cc10 => ?_)
    · have hlt : j + 1 < l.length := by simp at cc10; omega
      have ej : ((j : Int) + 1).toNat = j + 1 := by omega
      have ej0 : (0 : Int) ≤ (j : Int) + 1 := by omega
      have e1 : IntKind.wrap .i64 ((j : Int) + 1 - 1) = j := by rw [Int.add_sub_cancel, wrap_nat (by omega)]
      have hlt0 : j < l.length := by omega
      have g1 := ix_some hlt
      have g0 := ix_some hlt0
      refine aw_skip ?_
      refine hk8 _ ?_
      refine aw_seq fun Khk11 hk11 => ?_
      refine aw_block ?_
      refine aw_draw _ (by kernel_rfl) rfl rfl fun Jhk12 hk12 => ?_
      simp only [go_sem, Int.natCast_one, ej, ej0, e1, hlt, hlt0, g0, g1]
      refine hk12 _ _ _ ⟨by kernel_rfl, by first | exact trivial | (simp only [go_sem, Int.natCast_one, ej, ej0, e1, hlt, hlt0, g0, g1])⟩ ?_
      refine aw_cond rfl (fun cc13 => ?_) (fun cc13 => ?_)
      · have hn : ix l (j + 1) = ix l j := by simpa using cc13
        have hst : ddN l (j + 1 + 1) = l.take (j + 1) := by rw [ddN_eq hn, hd]
        have hcs := cN_start hlt hst
        have hds : (ddN l (j + 1 + 1)).length = j + 1 := by rw [hst]; simp; omega
        refine aw_reg rfl fun Khk14 hk14 => ?_
        simp only [go_sem, Int.natCast_one, ej, ej0, e1, hlt, hlt0, g0, g1, hcs, hds]
        refine bcust (cust_back (ty := 3) (c := .p (.ints .i64 l.length l)) (k := .i64) (id := 1000) (path := []) (sz := 1) (len := l.length) (b := (j : Int) + 1) rfl (by simp only [go_sem, Int.natCast_one, ej, ej0, e1, hlt, hlt0, g0, g1, hcs, hds]) ej0 (by rw [ej]; omega) (by rw [ej]; exact hlt) el25 ld3) (by simp only [go_sem, Int.natCast_one, ej, ej0, e1, hlt, hlt0, g0, g1, hcs, hds]) (by simp only [go_sem, Int.natCast_one, ej, ej0, e1, hlt, hlt0, g0, g1, hcs, hds]) (by simp only [go_sem, Int.natCast_one, ej, ej0, e1, hlt, hlt0, g0, g1, hcs, hds]) ?_
        simp only [go_sem, Int.natCast_one, ej, ej0, e1, hlt, hlt0, g0, g1, hcs, hds]
        refine hk14 _ ?_
        refine aw_seq fun Khk15 hk15 => ?_
        refine aw_reg rfl fun Khk16 hk16 => ?_
        simp only [go_sem, Int.natCast_one, ej, ej0, e1, hlt, hlt0, g0, g1, hcs, hds]
        refine hk16 _ ?_
        refine aw_block ?_
        refine aw_loop (α := {p : Nat // j + 1 + (p + 1) ≤ l.length})
          (fun x => ⟨61, [(5, .p (.v (.int .i64 ((x.1 : Int) + 1)))), (4, .oss 1000 [] (j + 1) 1 (l.length - (j + 1))), (3, .p (.v (.int .i64 (ddN l (j + 1 + (x.1 + 1))).length))), (0, .osl 1000 [] 1 l.length)], [(1000, .row 3 (.p (.ints .i64 l.length (cN l (j + 1 + (x.1 + 1))))))]⟩)
          (fun x => l.length - x.1) ⟨0, by omega⟩ (imp_less (by simp only [go_sem, Int.natCast_one, ej, ej0, e1, hlt, hlt0, g0, g1, hcs, hds])) fun ⟨p, hp⟩ => ?_
        have hb := ddN_bound hlt hst p
        have hlen : (cN l (j + 1 + (p + 1))).length = l.length := cN_len (by omega)
        refine aw_seq fun Khk17 hk17 => ?_
        refine aw_reg rfl fun Khk18 hk18 => ?_
        simp only [go_sem, Int.natCast_one, ej, ej0, e1, hlt, hlt0, g0, g1, hcs, hds, hlen]
        refine bcust (cust_len (ty := 3) (c := .p (.ints .i64 l.length (cN l (j + 1 + (p + 1))))) (id := 1000) (path := []) (so := j + 1) (sz := 1) (len := l.length - (j + 1)) rfl rfl rfl (by simp only [go_sem, Int.natCast_one, ej, ej0, e1, hlt, hlt0, g0, g1, hcs, hds, hlen]) el25) (by simp only [go_sem, Int.natCast_one, ej, ej0, e1, hlt, hlt0, g0, g1, hcs, hds, hlen]) (by simp only [go_sem, Int.natCast_one, ej, ej0, e1, hlt, hlt0, g0, g1, hcs, hds, hlen]) (by simp only [go_sem, Int.natCast_one, ej, ej0, e1, hlt, hlt0, g0, g1, hcs, hds, hlen]) ?_
        simp only [go_sem, Int.natCast_one, ej, ej0, e1, hlt, hlt0, g0, g1, hcs, hds, hlen]
        refine hk18 _ ?_
        refine aw_cond rfl (fun cc19 => ?_) (fun cc19 => ?_)
        · have hq : j + 1 + (p + 1) < l.length := by simp at cc19; omega
          have hq0 : j + 1 + p < l.length := by omega
          have ep : ((p : Int) + 1).toNat = p + 1 := by omega
          have ep0 : (0 : Int) ≤ (p : Int) + 1 := by omega
          have e2 : IntKind.wrap .i64 ((p : Int) + 1 - 1) = p := by rw [Int.add_sub_cancel, wrap_nat (by omega)]
          have gq1 : (cN l (j + 1 + (p + 1)))[j + 1 + (p + 1)]? = some (ix l (j + 1 + (p + 1))) := cN_get (by omega) hq
          have gq0 : (cN l (j + 1 + (p + 1)))[j + 1 + p]? = some (ix l (j + 1 + p)) := cN_get (by omega) hq0
          have hk : (ddN l (j + 1 + (p + 1))).length < l.length := by omega
          have gk : (cN l (j + 1 + (p + 1)))[(ddN l (j + 1 + (p + 1))).length]? = some (ix l (ddN l (j + 1 + (p + 1))).length) := cN_get (Nat.le_refl _) hk
          refine aw_skip ?_
          refine hk17 _ ?_
          refine aw_seq fun Khk20 hk20 => ?_
          refine aw_block ?_
          refine aw_draw _ (by kernel_rfl) rfl rfl fun Jhk21 hk21 => ?_
          simp only [go_sem, Int.natCast_one, ej, ej0, e1, hlt, hlt0, g0, g1, hcs, hds, hlen, ep, ep0, e2, hq, hq0, gq1, gq0, hk, gk]
          refine ccust (cust_index (ty := 3) (c := .p (.ints .i64 l.length (cN l (j + 1 + (p + 1))))) (id := 1000) (path := []) (so := j + 1) (sz := 1) (len := l.length - (j + 1)) (k := .i64) (b := (p : Int) + 1) (by simp only [go_sem, Int.natCast_one, ej, ej0, e1, hlt, hlt0, g0, g1, hcs, hds, hlen, ep, ep0, e2, hq, hq0, gq1, gq0, hk, gk]) (by simp only [go_sem, Int.natCast_one, ej, ej0, e1, hlt, hlt0, g0, g1, hcs, hds, hlen, ep, ep0, e2, hq, hq0, gq1, gq0, hk, gk]) ep0 (by rw [ep]; omega) rfl rfl (by rw [ep]; exact hq) el25 ld3) (by simp only [go_sem, Int.natCast_one, ej, ej0, e1, hlt, hlt0, g0, g1, hcs, hds, hlen, ep, ep0, e2, hq, hq0, gq1, gq0, hk, gk]) (by simp only [go_sem, Int.natCast_one, ej, ej0, e1, hlt, hlt0, g0, g1, hcs, hds, hlen, ep, ep0, e2, hq, hq0, gq1, gq0, hk, gk]) ?_
          simp only [go_sem, Int.natCast_one, ej, ej0, e1, hlt, hlt0, g0, g1, hcs, hds, hlen, ep, ep0, e2, hq, hq0, gq1, gq0, hk, gk]
          refine ccust (cust_index (ty := 3) (c := .p (.ints .i64 l.length (cN l (j + 1 + (p + 1))))) (id := 1000) (path := []) (so := j + 1) (sz := 1) (len := l.length - (j + 1)) (k := .i64) (b := (p : Int)) (by simp only [go_sem, Int.natCast_one, ej, ej0, e1, hlt, hlt0, g0, g1, hcs, hds, hlen, ep, ep0, e2, hq, hq0, gq1, gq0, hk, gk]) (by simp only [go_sem, Int.natCast_one, ej, ej0, e1, hlt, hlt0, g0, g1, hcs, hds, hlen, ep, ep0, e2, hq, hq0, gq1, gq0, hk, gk]) (by omega) (by simp; omega) rfl rfl (by simp [AV.cnt]; omega) el25 ld3) (by simp only [go_sem, Int.natCast_one, ej, ej0, e1, hlt, hlt0, g0, g1, hcs, hds, hlen, ep, ep0, e2, hq, hq0, gq1, gq0, hk, gk]) (by simp only [go_sem, Int.natCast_one, ej, ej0, e1, hlt, hlt0, g0, g1, hcs, hds, hlen, ep, ep0, e2, hq, hq0, gq1, gq0, hk, gk]) ?_
          simp only [go_sem, Int.natCast_one, ej, ej0, e1, hlt, hlt0, g0, g1, hcs, hds, hlen, ep, ep0, e2, hq, hq0, gq1, gq0, hk, gk]
          refine hk21 _ _ _ ⟨by kernel_rfl, by first | exact trivial | (simp only [go_sem, Int.natCast_one, ej, ej0, e1, hlt, hlt0, g0, g1, hcs, hds, hlen, ep, ep0, e2, hq, hq0, gq1, gq0, hk, gk])⟩ ?_
          refine aw_cond rfl (fun cc22 => ?_) (fun cc22 => ?_)
          · have hn4 : ix l (j + 1 + p + 1) ≠ ix l (j + 1 + p) := by have h := cc22; simp at h; exact h
            have hset : (cN l (j + 1 + (p + 1))).set (ddN l (j + 1 + (p + 1))).length (ix l (j + 1 + (p + 1))) = cN l (j + 1 + (p + 1 + 1)) := cN_set hk hn4
            have hd4 : ddN l (j + 1 + (p + 1 + 1)) = ddN l (j + 1 + (p + 1)) ++ [ix l (j + 1 + (p + 1))] := ddN_ne' hn4
            have ek : IntKind.wrap .i64 (((ddN l (j + 1 + (p + 1))).length : Int) + 1) = ((ddN l (j + 1 + (p + 1))).length : Int) + 1 := wrap_i64 (by omega) (by omega)
            refine aw_reg rfl fun Khk23 hk23 => ?_
            simp only [go_sem, Int.natCast_one, ej, ej0, e1, hlt, hlt0, g0, g1, hcs, hds, hlen, ep, ep0, e2, hq, hq0, gq1, gq0, hk, gk, hset, ek]
            refine bcust (cust_index (ty := 3) (c := .p (.ints .i64 l.length (cN l (j + 1 + (p + 1))))) (id := 1000) (path := []) (so := j + 1) (sz := 1) (len := l.length - (j + 1)) (k := .i64) (b := (p : Int) + 1) (by simp only [go_sem, Int.natCast_one, ej, ej0, e1, hlt, hlt0, g0, g1, hcs, hds, hlen, ep, ep0, e2, hq, hq0, gq1, gq0, hk, gk, hset, ek]) (by simp only [go_sem, Int.natCast_one, ej, ej0, e1, hlt, hlt0, g0, g1, hcs, hds, hlen, ep, ep0, e2, hq, hq0, gq1, gq0, hk, gk, hset, ek]) ep0 (by rw [ep]; omega) rfl rfl (by rw [ep]; exact hq) el25 ld3) (by simp only [go_sem, Int.natCast_one, ej, ej0, e1, hlt, hlt0, g0, g1, hcs, hds, hlen, ep, ep0, e2, hq, hq0, gq1, gq0, hk, gk, hset, ek]) (by simp only [go_sem, Int.natCast_one, ej, ej0, e1, hlt, hlt0, g0, g1, hcs, hds, hlen, ep, ep0, e2, hq, hq0, gq1, gq0, hk, gk, hset, ek]) (by simp only [go_sem, Int.natCast_one, ej, ej0, e1, hlt, hlt0, g0, g1, hcs, hds, hlen, ep, ep0, e2, hq, hq0, gq1, gq0, hk, gk, hset, ek]) ?_
            simp only [go_sem, Int.natCast_one, ej, ej0, e1, hlt, hlt0, g0, g1, hcs, hds, hlen, ep, ep0, e2, hq, hq0, gq1, gq0, hk, gk, hset, ek]
            refine hk23 _ ?_
            refine aw_reg_last rfl fun Khk24 hk24 => ?_
            simp only [go_sem, Int.natCast_one, ej, ej0, e1, hlt, hlt0, g0, g1, hcs, hds, hlen, ep, ep0, e2, hq, hq0, gq1, gq0, hk, gk, hset, ek]
            refine hk24 _ ?_
            refine hk20 _ ?_
            refine aw_reg_last rfl fun Khk25 hk25 => ?_
            simp only [go_sem, Int.natCast_one, ej, ej0, e1, hlt, hlt0, g0, g1, hcs, hds, hlen, ep, ep0, e2, hq, hq0, gq1, gq0, hk, gk, hset, ek]
            refine hk25 _ ?_
            refine ⟨⟨p + 1, by omega⟩, imp_row rfl ⟨?_, ?_, ?_, ?_, trivial⟩, by simp only; omega⟩
            · simp only [go_sem, Int.natCast_one, ej, ej0, e1, hlt, hlt0, g0, g1, hcs, hds, hlen, ep, ep0, e2, hq, hq0, gq1, gq0, hk, gk, hset, ek]
              exact le_int (wrap_i64 (by omega) (by omega))
            · simp only [go_sem, Int.natCast_one, ej, ej0, e1, hlt, hlt0, g0, g1, hcs, hds, hlen, ep, ep0, e2, hq, hq0, gq1, gq0, hk, gk, hset, ek]
            · simp only [go_sem, Int.natCast_one, ej, ej0, e1, hlt, hlt0, g0, g1, hcs, hds, hlen, ep, ep0, e2, hq, hq0, gq1, gq0, hk, gk, hset, ek]
              exact le_int (by rw [hd4]; simp)
            · simp only [go_sem, Int.natCast_one, ej, ej0, e1, hlt, hlt0, g0, g1, hcs, hds, hlen, ep, ep0, e2, hq, hq0, gq1, gq0, hk, gk, hset, ek]
          · have hn4 : ix l (j + 1 + p + 1) = ix l (j + 1 + p) := by have h := cc22; simp at h; exact h
            have hd4 : ddN l (j + 1 + (p + 1 + 1)) = ddN l (j + 1 + (p + 1)) := ddN_eq hn4
            have hset : cN l (j + 1 + (p + 1 + 1)) = cN l (j + 1 + (p + 1)) := by unfold cN; rw [hd4]
            refine aw_skip ?_
            refine hk20 _ ?_
            refine aw_reg_last rfl fun Khk26 hk26 => ?_
            simp only [go_sem, Int.natCast_one, ej, ej0, e1, hlt, hlt0, g0, g1, hcs, hds, hlen, ep, ep0, e2, hq, hq0, gq1, gq0, hk, gk]
            refine hk26 _ ?_
            refine ⟨⟨p + 1, by omega⟩, imp_row (by simp only [hset]; rfl) ⟨?_, ?_, ?_, ?_, trivial⟩, by simp only; omega⟩
            · simp only [go_sem, Int.natCast_one, ej, ej0, e1, hlt, hlt0, g0, g1, hcs, hds, hlen, ep, ep0, e2, hq, hq0, gq1, gq0, hk, gk]
              exact le_int (wrap_i64 (by omega) (by omega))
            · simp only [go_sem, Int.natCast_one, ej, ej0, e1, hlt, hlt0, g0, g1, hcs, hds, hlen, ep, ep0, e2, hq, hq0, gq1, gq0, hk, gk]
            · simp only [go_sem, Int.natCast_one, ej, ej0, e1, hlt, hlt0, g0, g1, hcs, hds, hlen, ep, ep0, e2, hq, hq0, gq1, gq0, hk, gk]
              exact le_int (by rw [hd4])
            · simp only [go_sem, Int.natCast_one, ej, ej0, e1, hlt, hlt0, g0, g1, hcs, hds, hlen, ep, ep0, e2, hq, hq0, gq1, gq0, hk, gk]
        · have hq : j + 1 + (p + 1) = l.length := by simp at cc19; omega
          have hkl : (ddN l l.length).length < l.length := by rw [← hq]; omega
          have hlenE : (cN l l.length).length = l.length := cN_len (by omega)
          refine aw_exit ?_
          refine hk15 _ ?_
          refine aw_reg rfl fun Khk27 hk27 => ?_
          simp only [go_sem, Int.natCast_one, ej, ej0, e1, hlt, hlt0, g0, g1, hcs, hds, hlen, hq, hlenE, hkl]
          refine bcust (cust_back (ty := 3) (c := .p (.ints .i64 l.length (cN l l.length))) (id := 1000) (path := []) (sz := 1) (len := l.length) (k := .i64) (b := ((ddN l l.length).length : Int)) (by simp only [go_sem, Int.natCast_one, ej, ej0, e1, hlt, hlt0, g0, g1, hcs, hds, hlen, hq, hlenE, hkl]) (by simp only [go_sem, Int.natCast_one, ej, ej0, e1, hlt, hlt0, g0, g1, hcs, hds, hlen, hq, hlenE, hkl]) (by omega) (by simp; omega) (by simp only [Int.toNat_natCast]; exact hkl) el25 ld3) (by simp only [go_sem, Int.natCast_one, ej, ej0, e1, hlt, hlt0, g0, g1, hcs, hds, hlen, hq, hlenE, hkl]) (by simp only [go_sem, Int.natCast_one, ej, ej0, e1, hlt, hlt0, g0, g1, hcs, hds, hlen, hq, hlenE, hkl]) (by simp only [go_sem, Int.natCast_one, ej, ej0, e1, hlt, hlt0, g0, g1, hcs, hds, hlen, hq, hlenE, hkl]) ?_
          simp only [go_sem, Int.natCast_one, ej, ej0, e1, hlt, hlt0, g0, g1, hcs, hds, hlen, hq, hlenE, hkl]
          refine bcust (cust_clear (ty := 3) (c := .p (.ints .i64 l.length (cN l l.length))) (id := 1000) (path := []) (so := (ddN l l.length).length) (len := l.length - (ddN l l.length).length) (N := l.length) (l := cN l l.length) (kd := .i64) (c' := .p (.ints .i64 l.length ((cN l l.length).take (ddN l l.length).length ++ List.replicate (l.length - (ddN l l.length).length) 0 ++ (cN l l.length).drop ((ddN l l.length).length + (l.length - (ddN l l.length).length))))) rfl rfl rfl (by simp only [go_sem, Int.natCast_one, ej, ej0, e1, hlt, hlt0, g0, g1, hcs, hds, hlen, hq, hlenE, hkl]) (by simp only [go_sem, Int.natCast_one, ej, ej0, e1, hlt, hlt0, g0, g1, hcs, hds, hlen, hq, hlenE, hkl]) rfl (by rw [hlenE]; omega) (by omega) el25 z3 zc3) (by simp only [go_sem, Int.natCast_one, ej, ej0, e1, hlt, hlt0, g0, g1, hcs, hds, hlen, hq, hlenE, hkl]) (by simp only [go_sem, Int.natCast_one, ej, ej0, e1, hlt, hlt0, g0, g1, hcs, hds, hlen, hq, hlenE, hkl]) (by simp only [go_sem, Int.natCast_one, ej, ej0, e1, hlt, hlt0, g0, g1, hcs, hds, hlen, hq, hlenE, hkl]) ?_
          simp only [go_sem, Int.natCast_one, ej, ej0, e1, hlt, hlt0, g0, g1, hcs, hds, hlen, hq, hlenE, hkl]
          refine hk27 _ ?_
          refine aw_reg rfl fun Khk28 hk28 => ?_
          simp only [go_sem, Int.natCast_one, ej, ej0, e1, hlt, hlt0, g0, g1, hcs, hds, hlen, hq, hlenE, hkl]
          refine bcust (cust_front (ty := 3) (c := .p (.ints .i64 l.length ((cN l l.length).take (ddN l l.length).length ++ List.replicate (l.length - (ddN l l.length).length) 0 ++ (cN l l.length).drop ((ddN l l.length).length + (l.length - (ddN l l.length).length))))) (id := 1000) (path := []) (sz := 1) (len := l.length) (k := .i64) (b := ((ddN l l.length).length : Int)) (by simp only [go_sem, Int.natCast_one, ej, ej0, e1, hlt, hlt0, g0, g1, hcs, hds, hlen, hq, hlenE, hkl]) (by simp only [go_sem, Int.natCast_one, ej, ej0, e1, hlt, hlt0, g0, g1, hcs, hds, hlen, hq, hlenE, hkl]) (by omega) (by simp; omega) el25 ld3) (by simp only [go_sem, Int.natCast_one, ej, ej0, e1, hlt, hlt0, g0, g1, hcs, hds, hlen, hq, hlenE, hkl]) (by simp only [go_sem, Int.natCast_one, ej, ej0, e1, hlt, hlt0, g0, g1, hcs, hds, hlen, hq, hlenE, hkl]) (by simp only [go_sem, Int.natCast_one, ej, ej0, e1, hlt, hlt0, g0, g1, hcs, hds, hlen, hq, hlenE, hkl]) ?_
          simp only [go_sem, Int.natCast_one, ej, ej0, e1, hlt, hlt0, g0, g1, hcs, hds, hlen, hq, hlenE, hkl]
          refine hk28 _ ?_
          refine aw_imp (row_freeze (r := dedupI l) (m := (ddN l l.length).length) (t := 2) rfl (by simp only [go_sem, Int.natCast_one, ej, ej0, e1, hlt, hlt0, g0, g1, hcs, hds, hlen, hq, hlenE, hkl]) (by rw [List.length_append, List.length_append, List.length_take, List.length_replicate]; omega) (dedup_take _)) ?_
          refine aw_ret ?_
          refine ret_tmp ?_ trivial
          simp only [go_sem, Int.natCast_one, ej, ej0, e1, hlt, hlt0, g0, g1, hcs, hds, hlen, hq, hlenE, hkl]
      · have hn : ix l (j + 1) ≠ ix l j := by simpa using cc13
        refine aw_skip ?_
        refine hk11 _ ?_
        refine aw_reg_last rfl fun Khk29 hk29 => ?_
        simp only [go_sem, Int.natCast_one, ej, ej0, e1, hlt, hlt0, g0, g1]
        refine hk29 _ ?_
        refine ⟨⟨j + 1, hlt, ddN_ne hlt hd hn⟩, imp_less (by simp only [go_sem, Int.natCast_one, ej, ej0, e1, hlt, hlt0, g0, g1]; exact le_int (wrap_i64 (by omega) (by omega))), by simp only; omega⟩
    · have hle : j + 1 = l.length := by simp at cc10; omega
      refine aw_exit ?_
      refine hk6 _ ?_
      refine aw_reg rfl fun Khk30 hk30 => ?_
      simp only [go_sem, Int.natCast_one]
      refine hk30 _ ?_
      refine aw_imp (row_freeze (r := dedupI l) (m := l.length) (t := 2) rfl (by simp only [go_sem, Int.natCast_one]) (Nat.le_refl _) (by rw [dedupI, ← hle, hd])) ?_
      refine aw_ret ?_
      refine ret_tmp ?_ trivial
      simp only [go_sem, Int.natCast_one]

end Go.Proofs.YtlfincjibiihaaaDoor
end

section
namespace Go.Proofs.YtlfincjibiihaaaDoor
open Go Go.Av Go.Proofs
set_option linter.unusedVariables false
set_option linter.unusedSimpArgs false
set_option linter.unusedSectionVars false
/-- What is shown. -/
structure Sn where
  signed : List Int
  secret : List Int
  height : Int
  age : Int
def seenPV (s : Sn) : PV := .st [.sl 1 (s.signed.map I), .sl 1 (s.secret.map B), .v (.int .i64 s.height), .v (.int .i64 s.age)]

set_option maxRecDepth 100000 in
set_option maxHeartbeats 2000000 in
theorem missing_calls (k : Int) (s : Sn) (hl : s.signed.length < 1000000) : ACalls Tryd.prog 40 [.p (.v (.int .i64 k)), .ptr 1000 []] [(1000, .row 41 (.p (seenPV s)))] (.p (.v (.bool (!decide (idxOf s.signed k ≥ 0))))) [(1000, .row 41 (.p (seenPV s)))] := by
  refine acalls_of (fn := Tryd.f40) Tryd.func40 rfl (by decide) (n := 9) rfl (by simp) (by simp) (by simp [idsOf]) (by simp [idsOf]) ?_
  simp only [argT]
  refine aw_reg rfl fun Khk1 hk1 => ?_
  simp only [go_sem, seenPV]
  refine hk1 _ ?_
  refine aw_reg rfl fun Khk2 hk2 => ?_
  simp only [go_sem, seenPV]
  refine bcall0 (contains_calls s.signed k hl) (by simp only [go_sem, seenPV]) rfl (by simp only [go_sem, seenPV]) ?_
  simp only [go_sem, seenPV]
  refine hk2 _ ?_
  refine aw_ret ?_
  refine ret_tmp ?_ ?_
  simp only [go_sem, seenPV]
  simp only [go_sem, seenPV]

end Go.Proofs.YtlfincjibiihaaaDoor
end

section
namespace Go.Proofs.YtlfincjibiihaaaDoor
open Go Go.Av Go.Proofs
set_option linter.unusedVariables false
set_option linter.unusedSimpArgs false
set_option linter.unusedSectionVars false
/-- The first key that nobody signed. -/
def missAt (l : List Int) (s : Sn) : Int := match l.findIdx? (fun k => !decide (idxOf s.signed k ≥ 0)) with | some i => i | none => -1
def missB (s : Sn) (k : Int) : Bool := !decide (idxOf s.signed k ≥ 0)
theorem missAt_some {l : List Int} {s : Sn} {i : Nat} (hi : i < l.length) (h : missB s (ix l i) = true) (hall : ∀ j < i, missB s (ix l j) = false) : missAt l s = i := by
  have : l.findIdx? (fun k => !decide (idxOf s.signed k ≥ 0)) = some i := by
    rw [List.findIdx?_eq_some_iff_getElem]
    refine ⟨hi, by rw [← ix_get hi]; exact h, fun j hj => ?_⟩
    have := hall j hj
    rw [ix_get (by omega)] at this
    rw [show (!decide (idxOf s.signed l[j] ≥ 0)) = false from this]
    simp
  simp [missAt, this]
theorem missAt_none {l : List Int} {s : Sn} (hall : ∀ j < l.length, missB s (ix l j) = false) : missAt l s = -1 := by
  have : l.findIdx? (fun k => !decide (idxOf s.signed k ≥ 0)) = none := by
    rw [List.findIdx?_eq_none_iff]
    intro b hb
    obtain ⟨i, hi, e⟩ := List.mem_iff_getElem.1 hb
    have := hall i hi
    rw [ix_get hi, e] at this
    exact this
  simp [missAt, this]

set_option maxRecDepth 100000 in
set_option maxHeartbeats 2000000 in
theorem indexMissing_calls (l : List Int) (s : Sn) (hl : l.length < 1000000) (hs : s.signed.length < 1000000) : ACalls Tryd.prog 83 [.p (.sl 1 (l.map I)), .fn (.func 40) [.ptr 1000 []]] [(1000, .row 41 (.p (seenPV s)))] (.p (.v (.int .i64 (missAt l s)))) [(1000, .row 41 (.p (seenPV s)))] := by
  refine acalls_of (fn := Tryd.f83) Tryd.func83 rfl (by decide) (n := 19) rfl (by simp) (by simp) (by simp [idsOf]) (by simp [idsOf]) ?_
  simp only [argT]
  refine aw_reg rfl fun Khk1 hk1 => ?_
  simp only [go_sem, I]
  refine hk1 _ ?_
  refine aw_seq fun Khk2 hk2 => ?_
  refine aw_reg rfl fun Khk3 hk3 => ?_
  simp only [go_sem, I]
  refine hk3 _ ?_
  refine aw_block ?_
  refine aw_loop (α := {i : Nat // i ≤ l.length ∧ ∀ j < i, missB s (ix l j) = false})
    (fun x => ⟨19, [(8, .p (.v (.int .i64 x.1))), (7, .p (.v (.int .i64 l.length))), (4, .p (.v (.int .i64 0))), (0, .p (.sl 1 (l.map I))), (1, .fn (.func 40) [.ptr 1000 []])], [(1000, .row 41 (.p (seenPV s)))]⟩)
    (fun x => l.length - x.1) ⟨0, by simp⟩ (imp_less (by simp only [go_sem, I])) fun ⟨i, hi, hall⟩ => ?_
  refine aw_reg rfl fun Khk4 hk4 => ?_
  simp only [go_sem, I]
  refine hk4 _ ?_
  refine aw_seq fun Khk5 hk5 => ?_
  refine aw_cond rfl (fun cc6 => ?_) (fun cc6 => ?_)
  · have hlt : i < l.length := by simpa using cc6
    refine aw_skip ?_
    refine hk5 _ ?_
    refine aw_seq fun Khk7 hk7 => ?_
    refine aw_block ?_
    refine aw_reg rfl fun Khk8 hk8 => ?_
    simp only [go_sem, I, hlt, ix_map]
    refine hk8 _ ?_
    refine aw_reg rfl fun Khk9 hk9 => ?_
    simp only [go_sem, I, hlt, ix_map]
    refine bcallC (missing_calls (ix l i) s hs) (by simp only [go_sem, I, hlt, ix_map]) (by simp [idsOk, allDead, idsOf, refsIn, AV.refs, AV.refsL, seenPV]) (by simp only [go_sem]) (by simp only [go_sem, I, hlt, ix_map]) (by simp only [go_sem, I, hlt, ix_map]) ?_
    simp only [go_sem, I, hlt, ix_map]
    refine hk9 _ ?_
    refine aw_cond rfl (fun cc10 => ?_) (fun cc10 => ?_)
    · have hn : missB s (ix l i) = true := cc10
      refine aw_reg rfl fun Khk11 hk11 => ?_
      simp only [go_sem, I, hlt, ix_map, missAt_some hlt hn hall]
      refine hk11 _ ?_
      refine aw_ret ?_
      refine ret_tmp ?_ ?_
      simp only [go_sem, I, hlt, ix_map, missAt_some hlt hn hall]
      simp only [go_sem, I, hlt, ix_map, missAt_some hlt hn hall]
    · have hn : missB s (ix l i) = false := cc10
      refine aw_skip ?_
      refine hk7 _ ?_
      refine aw_reg_last rfl fun Khk12 hk12 => ?_
      simp only [go_sem, I, hlt, ix_map]
      refine hk12 _ ?_
      refine ⟨⟨i + 1, hlt, fun j hj => ?_⟩, imp_less (by simp only [go_sem, I, hlt, ix_map]; exact le_int (wrap_i64 (by omega) (by omega))), by simp only; omega⟩
      by_cases e : j = i
      · rw [e]; exact hn
      · exact hall j (by omega)
  · have hle : i = l.length := by simp at cc6; omega
    subst hle
    refine aw_exit ?_
    refine hk2 _ ?_
    refine aw_reg rfl fun Khk13 hk13 => ?_
    simp only [go_sem, I]
    refine hk13 _ ?_
    refine aw_ret ?_
    refine ret_tmp ?_ ?_
    simp only [go_sem, I]
    exact le_int (missAt_none hall).symm
    simp only [go_sem, I]

end Go.Proofs.YtlfincjibiihaaaDoor
end

section
namespace Go.Proofs.YtlfincjibiihaaaDoor
open Go Go.Av Go.Proofs
set_option linter.unusedVariables false
set_option linter.unusedSimpArgs false
set_option linter.unusedSectionVars false
set_option maxRecDepth 100000 in
set_option maxHeartbeats 2000000 in
theorem containsMissing_calls (l : List Int) (s : Sn) (hl : l.length < 1000000) (hs : s.signed.length < 1000000) : ACalls Tryd.prog 42 [.p (.sl 1 (l.map I)), .fn (.func 40) [.ptr 1000 []]] [(1000, .row 41 (.p (seenPV s)))] (.p (.v (.bool (decide (missAt l s ≥ 0))))) [(1000, .row 41 (.p (seenPV s)))] := by
  refine acalls_of (fn := Tryd.f42) Tryd.func42 rfl (by decide) (n := 9) rfl (by simp) (by simp) (by simp [idsOf]) (by simp [idsOf]) ?_
  simp only [argT]
  refine aw_reg rfl fun Khk1 hk1 => ?_
  simp only [go_sem, I]
  refine hk1 _ ?_
  refine aw_reg rfl fun Khk2 hk2 => ?_
  simp only [go_sem, I]
  refine bcall (indexMissing_calls l s hl hs) (by simp only [go_sem, I]) (by simp [idsOk, allDead, idsOf, refsIn, AV.refs, AV.refsL, seenPV]) (by simp only [go_sem]) (by simp only [go_sem, I]) (by simp only [go_sem, I]) ?_
  simp only [go_sem, I]
  refine hk2 _ ?_
  refine aw_ret ?_
  refine ret_tmp ?_ ?_
  simp only [go_sem, I]
  simp only [go_sem, I]

end Go.Proofs.YtlfincjibiihaaaDoor
end

section
namespace Go.Proofs.YtlfincjibiihaaaDoor
open Go Go.Av Go.Proofs
set_option linter.unusedVariables false
set_option linter.unusedSimpArgs false
set_option linter.unusedSectionVars false
set_option maxRecDepth 100000 in
set_option maxHeartbeats 2000000 in
theorem cloneRow_cons (x : Int) (xs : List Int) (hl : (x :: xs).length ≤ 1000000) : ACalls Tryd.prog 44 [.p (.sl 1 (I x :: xs.map I))] [] (.osl 7 [] 1 (x :: xs).length) [(7, .row 3 (.p (.ints .i64 (x :: xs).length (x :: xs))))] := by
  refine acalls_of (fn := Tryd.f44) Tryd.func44 rfl (by decide) (n := 8) rfl (by simp) (by simp) (by simp [idsOf]) (by simp [idsOf]) ?_
  simp only [argT]
  refine aw_reg rfl fun Khk1 hk1 => ?_
  simp only [go_sem, I]
  refine hk1 _ ?_
  refine aw_seq fun Khk2 hk2 => ?_
  refine aw_reg rfl fun Khk3 hk3 => ?_
  simp only [go_sem, I]
  refine btree (binRun_cons Tryd.underlying25) (by simp only [go_sem, I]) ?_
  simp only [go_sem, I]
  refine hk3 _ ?_
  refine aw_cond rfl (fun cc4 => ?_) (fun cc4 => ?_)
  · cases cc4
  · refine aw_skip ?_
    refine hk2 _ ?_
    refine aw_reg_a fun Khk5 hk5 => ?_
    refine a_split 2 rfl fun Khk6 hk6 => ?_
    simp only [go_sem, I]
    intro a
    refine hk6 _ ?_
    simp only [List.drop_succ_cons, List.drop_zero]
    refine a_cust (cust_append_row (dd := 7) (l := x :: xs) (tc := []) (ab := a) (kd := .i64) rfl rfl rfl ⟨el25, ⟨_, ld3⟩, ⟨_, z3, rfl⟩, zc3, by decide, by3, by decide⟩ (by simp only [go_sem, I]) (by decide) (by simp only [go_sem, srcOf]; rfl) (by omega) (by simp)) (by simp only [go_sem, I]) (by simp only [go_sem, I]) (by simp only [go_sem, I]) ?_
    refine a_rest rfl ?_
    simp only [go_sem, I]
    refine hk5 _ ?_
    refine aw_ret ?_
    refine ret_tmp ?_ ?_
    simp only [go_sem, I]
    simp only [go_sem, I]

end Go.Proofs.YtlfincjibiihaaaDoor
end

section
namespace Go.Proofs.YtlfincjibiihaaaDoor
open Go Go.Av Go.Proofs
set_option linter.unusedVariables false
set_option linter.unusedSimpArgs false
set_option linter.unusedSectionVars false
theorem sort_at (t : Nat) (l : List Int) (hl : l.length < 1000000) : ACalls Tryd.prog 45 [.osl t [] 1 l.length] [(t, .row 3 (.p (.ints .i64 l.length l)))] (.tup []) [(t, .row 3 (.p (.ints .i64 l.length (sortI l))))] := by
  have := (sort_calls l hl).swap 1000 t
  simpa only [List.map_cons, List.map_nil, AV.ren, AV.renL, renH, AObj.ren, swp, if_true] using this
theorem compact_at (t : Nat) (l : List Int) (hl : l.length < 1000000) : ACalls Tryd.prog 46 [.osl t [] 1 l.length] [(t, .row 3 (.p (.ints .i64 l.length l)))] (.p (.sl 1 ((dedupI l).map I))) [] := by
  have := (compact_calls l hl).swap 1000 t
  simpa only [List.map_cons, List.map_nil, AV.ren, renH, AObj.ren, swp, if_true] using this
theorem compact_at' (t : Nat) (l : List Int) (n : Nat) (hn : n = l.length) (hl : l.length < 1000000) : ACalls Tryd.prog 46 [.osl t [] 1 n] [(t, .row 3 (.p (.ints .i64 n l)))] (.p (.sl 1 ((dedupI l).map I))) [] := by
  subst hn; exact compact_at t l hl
theorem sort_none : ACalls Tryd.prog 45 [.p (.sl 1 [])] [] (.tup []) [] := by
  refine ⟨by kernel_rfl, fun w F m vals hlen hvals hS => ?_⟩
  obtain ⟨v, rfl⟩ : ∃ v, vals = [v] := List.length_eq_one_iff.1 (by simpa using hlen)
  obtain ⟨b, c, rfl⟩ := (hvals 0 v _ rfl rfl).sl_nil
  have hcon := AnyM.slices_Sort_int_none Tryd.l b c w
  have hcon' : Calls Tryd.prog 45 #[.slice b 0 c] w _ := hcon
  refine hcon'.mono fun e w' ⟨he, hw⟩ => ?_
  subst hw
  exact ⟨_, m, he, RepV.tup (xs := []) rfl fun i x a hx => by simp at hx, hS, Fr.refl _ _, fun b o _ ho => ho, fun id _ => HOk.refl _ _⟩

set_option maxRecDepth 100000 in
set_option maxHeartbeats 2000000 in
theorem cloneI_nil  : ACalls Tryd.prog 44 [.p (.sl 1 [])] [] (.p (.sl 1 [])) [] := by
  refine acalls_of (fn := Tryd.f44) Tryd.func44 rfl (by decide) (n := 8) rfl (by simp) (by simp) (by simp [idsOf]) (by simp [idsOf]) ?_
  simp only [argT]
  refine aw_reg rfl fun Khk1 hk1 => ?_
  simp only [go_sem]
  refine hk1 _ ?_
  refine aw_seq fun Khk2 hk2 => ?_
  refine aw_reg rfl fun Khk3 hk3 => ?_
  simp only [go_sem]
  intro b
  refine hk3 _ ?_
  refine aw_cond rfl (fun cc4 => ?_) (fun cc4 => ?_)
  · refine aw_reg rfl fun Khk5 hk5 => ?_
    simp only [go_sem]
    refine hk5 _ ?_
    refine aw_ret ?_
    refine ret_tmp ?_ trivial
    simp only [go_sem]
  · refine aw_skip ?_
    refine hk2 _ ?_
    refine aw_reg rfl fun Khk6 hk6 => ?_
    simp only [go_sem]
    intro a
    refine hk6 _ ?_
    refine aw_ret ?_
    refine ret_tmp ?_ trivial
    simp only [go_sem]

set_option maxRecDepth 100000 in
set_option maxHeartbeats 2000000 in
theorem compact_nil  : ACalls Tryd.prog 46 [.p (.sl 1 [])] [] (.p (.sl 1 [])) [] := by
  refine acalls_of (fn := Tryd.f46) Tryd.func46 rfl (by decide) (n := 61) rfl (by simp) (by simp) (by simp [idsOf]) (by simp [idsOf]) ?_
  simp only [argT]
  refine aw_reg rfl fun Khk1 hk1 => ?_
  simp only [go_sem]
  refine hk1 _ ?_
  refine aw_seq fun Khk2 hk2 => ?_
  refine aw_reg rfl fun Khk3 hk3 => ?_
  simp only [go_sem]
  refine hk3 _ ?_
  refine aw_cond rfl (fun cc4 => ?_) (fun cc4 => ?_)
  · refine aw_reg rfl fun Khk5 hk5 => ?_
    simp only [go_sem]
    refine hk5 _ ?_
    refine aw_ret ?_
    refine ret_tmp ?_ trivial
    simp only [go_sem]
  · simp at cc4

/-- The condition that all of some sign. -/
def allBr (l : List Int) : Br := ⟨dedupI (sortI l), List.replicate 32 0, 0, 0⟩
theorem dedup_nil : dedupI (sortI []) = [] := by simp [sortI, dedupI, ddN]

set_option maxRecDepth 100000 in
set_option maxHeartbeats 2000000 in
theorem all_nil  : ACalls Tryd.prog 17 [.p (.sl 1 [])] [] (.p (condPV [allBr []])) [] := by
  refine acalls_of (fn := Tryd.f17) Tryd.func17 rfl (by decide) (n := 13) rfl (by simp) (by simp) (by simp [idsOf]) (by simp [idsOf]) ?_
  simp only [argT]
  refine aw_reg rfl fun Khk1 hk1 => ?_
  simp only [go_sem, condPV, brPV, allBr, dedup_nil]
  refine hk1 _ ?_
  refine aw_reg rfl fun Khk2 hk2 => ?_
  simp only [go_sem, condPV, brPV, allBr, dedup_nil]
  refine bcall0 (cloneI_nil) (by simp only [go_sem, condPV, brPV, allBr, dedup_nil]) rfl (by simp only [go_sem, condPV, brPV, allBr, dedup_nil]) ?_
  simp only [go_sem, condPV, brPV, allBr, dedup_nil]
  refine hk2 _ ?_
  refine aw_reg rfl fun Khk3 hk3 => ?_
  simp only [go_sem, condPV, brPV, allBr, dedup_nil]
  refine bcall0 (sort_none) (by simp only [go_sem, condPV, brPV, allBr, dedup_nil]) rfl (by simp only [go_sem, condPV, brPV, allBr, dedup_nil]) ?_
  simp only [go_sem, condPV, brPV, allBr, dedup_nil]
  refine hk3 _ ?_
  refine aw_reg rfl fun Khk4 hk4 => ?_
  simp only [go_sem, condPV, brPV, allBr, dedup_nil]
  refine bcall0 (compact_nil) (by simp only [go_sem, condPV, brPV, allBr, dedup_nil]) rfl (by simp only [go_sem, condPV, brPV, allBr, dedup_nil]) ?_
  simp only [go_sem, condPV, brPV, allBr, dedup_nil]
  refine hk4 _ ?_
  refine aw_ret ?_
  refine ret_cell rfl rfl rfl ⟨rfl, by simp only [go_sem, condPV, brPV, allBr, dedup_nil]⟩ ?_ (by simp only [go_sem, condPV, brPV, allBr, dedup_nil])
  simp only [go_sem, condPV, brPV, allBr, dedup_nil]

set_option maxRecDepth 100000 in
set_option maxHeartbeats 2000000 in
theorem all_cons (x : Int) (xs : List Int) (hl : (x :: xs).length < 1000000) : ACalls Tryd.prog 17 [.p (.sl 1 (I x :: xs.map I))] [] (.p (condPV [allBr (x :: xs)])) [] := by
  refine acalls_of (fn := Tryd.f17) Tryd.func17 rfl (by decide) (n := 13) rfl (by simp) (by simp) (by simp [idsOf]) (by simp [idsOf]) ?_
  simp only [argT]
  refine aw_reg rfl fun Khk1 hk1 => ?_
  simp only [go_sem, condPV, brPV, allBr]
  refine hk1 _ ?_
  refine aw_reg rfl fun Khk2 hk2 => ?_
  simp only [go_sem, condPV, brPV, allBr]
  refine bcall (cloneRow_cons x xs (by omega)) (by simp only [go_sem, condPV, brPV, allBr]) (by simp [idsOk, allDead, idsOf, refsIn, AV.refs, AV.refsL]) (by simp only [go_sem]) (by simp only [go_sem, condPV, brPV, allBr]) (by simp only [go_sem, condPV, brPV, allBr]) ?_
  simp only [go_sem, condPV, brPV, allBr]
  refine hk2 _ ?_
  refine aw_reg rfl fun Khk3 hk3 => ?_
  simp only [go_sem, condPV, brPV, allBr]
  refine bcall (sort_at 7 (x :: xs) hl) (by simp only [go_sem, condPV, brPV, allBr]) (by simp [idsOk, allDead, idsOf, refsIn, AV.refs, AV.refsL]) (by simp only [go_sem]) (by simp only [go_sem, condPV, brPV, allBr]) (by simp only [go_sem, condPV, brPV, allBr]) ?_
  simp only [go_sem, condPV, brPV, allBr]
  refine hk3 _ ?_
  refine aw_reg rfl fun Khk4 hk4 => ?_
  simp only [go_sem, condPV, brPV, allBr]
  refine bcall (compact_at' 7 (sortI (x :: xs)) (x :: xs).length (sortI_len _).symm (by rw [sortI_len]; exact hl)) (by simp only [go_sem, condPV, brPV, allBr]) (by simp [idsOk, allDead, idsOf, refsIn, AV.refs, AV.refsL]) (by simp only [go_sem]) (by simp only [go_sem, condPV, brPV, allBr]) (by simp only [go_sem, condPV, brPV, allBr]) ?_
  simp only [go_sem, condPV, brPV, allBr]
  refine hk4 _ ?_
  refine aw_ret ?_
  refine ret_cell rfl rfl rfl ⟨rfl, by simp only [go_sem, condPV, brPV, allBr]⟩ ?_ (by simp only [go_sem, condPV, brPV, allBr])
  simp only [go_sem, condPV, brPV, allBr]

end Go.Proofs.YtlfincjibiihaaaDoor
end

section
namespace Go.Proofs.YtlfincjibiihaaaDoor
open Go Go.Av Go.Proofs
set_option linter.unusedVariables false
set_option linter.unusedSimpArgs false
set_option linter.unusedSectionVars false
theorem all_calls (l : List Int) (hl : l.length < 1000000) : ACalls Tryd.prog 17 [.p (.sl 1 (l.map I))] [] (.p (condPV [allBr l])) [] := by
  cases l with
  | nil => exact all_nil
  | cons x xs => exact all_cons x xs hl

end Go.Proofs.YtlfincjibiihaaaDoor
end

section
namespace Go.Proofs.YtlfincjibiihaaaDoor
open Go Go.Av Go.Proofs
set_option linter.unusedVariables false
set_option linter.unusedSimpArgs false
set_option linter.unusedSectionVars false
/-- A number put into its place among numbers in order, once. -/
def ins : List Int → Int → List Int
  | [], n => [n]
  | a :: l, n => if a < n then a :: ins l n else n :: a :: l
def insS (out : List Int) (n : Int) : List Int := if out.contains n then out else ins out n
def insN (l : List Int) (i : Nat) : List Int := (l.take i).foldl insS []
theorem insN_succ {l : List Int} {i : Nat} (h : i < l.length) : insN l (i + 1) = insS (insN l i) (ix l i) := by
  simp only [insN, List.take_succ_eq_append_getElem h, List.foldl_append, List.foldl_cons, List.foldl_nil, ix_get h]
theorem ins_at : ∀ {out : List Int} {n : Int} {j : Nat}, (∀ k < j, ix out k < n) → j ≤ out.length → (j < out.length → ¬ ix out j < n) → ins out n = out.take j ++ [n] ++ out.drop j
  | [], n, j, _, h, _ => by
    have : j = 0 := by simpa using h
    subst this; rfl
  | a :: l, n, 0, _, _, h2 => by
    have : ¬ a < n := h2 (by simp)
    simp [ins, this]
  | a :: l, n, j + 1, h0, h1, h2 => by
    have : a < n := h0 0 (by omega)
    have e := ins_at (out := l) (n := n) (j := j) (fun k hk => h0 (k + 1) (by omega)) (by simpa using h1) (fun h => h2 (by simpa using h))
    simp [ins, this, e]
theorem ins_len (n : Int) : ∀ l : List Int, (ins l n).length = l.length + 1
  | [] => rfl
  | a :: l => by
    simp only [ins]
    split
    · simp [ins_len n l]
    · simp
theorem insN_len (l : List Int) : ∀ i, i ≤ l.length → (insN l i).length ≤ i
  | 0, _ => by simp [insN]
  | i + 1, h => by
    have := insN_len l i (by omega)
    rw [insN_succ (by omega), insS]
    split
    · omega
    · rw [ins_len]; omega
theorem ins_mem (n x : Int) : ∀ l : List Int, x ∈ ins l n ↔ x = n ∨ x ∈ l
  | [] => by simp [ins]
  | a :: l => by
    simp only [ins]
    split
    · simp only [List.mem_cons, ins_mem n x l]
      constructor
      · rintro (h | h | h)
        · exact .inr (.inl h)
        · exact .inl h
        · exact .inr (.inr h)
      · rintro (h | h | h)
        · exact .inr (.inl h)
        · exact .inl h
        · exact .inr (.inr h)
    · simp only [List.mem_cons]
theorem insS_mem (n x : Int) (l : List Int) : x ∈ insS l n ↔ x = n ∨ x ∈ l := by
  unfold insS
  split
  · rename_i h
    have h : n ∈ l := by simpa using h
    constructor
    · exact .inr
    · rintro (e | e)
      · exact e ▸ h
      · exact e
  · exact ins_mem n x l
theorem ins_ord (n : Int) : ∀ l : List Int, l.Pairwise (· < ·) → n ∉ l → (ins l n).Pairwise (· < ·)
  | [], _, _ => by simp [ins]
  | a :: l, h, hn => by
    rw [List.pairwise_cons] at h
    simp only [List.mem_cons, not_or] at hn
    simp only [ins]
    split
    · rename_i han
      refine List.pairwise_cons.2 ⟨fun x hx => ?_, ins_ord n l h.2 hn.2⟩
      rcases (ins_mem n x l).1 hx with e | e
      · exact e ▸ han
      · exact h.1 x e
    · rename_i han
      have hna : n < a := by have := hn.1; omega
      refine List.pairwise_cons.2 ⟨fun x hx => ?_, List.pairwise_cons.2 h⟩
      rcases List.mem_cons.1 hx with e | e
      · exact e ▸ hna
      · exact Int.lt_trans hna (h.1 x e)
theorem insS_ord (n : Int) (l : List Int) (h : l.Pairwise (· < ·)) : (insS l n).Pairwise (· < ·) := by
  unfold insS
  split
  · exact h
  · rename_i hc
    exact ins_ord n l h (by simpa using hc)
theorem insN_spec (l : List Int) : ∀ i, i ≤ l.length → (insN l i).Pairwise (· < ·) ∧ ∀ x, x ∈ insN l i ↔ x ∈ l.take i
  | 0, _ => by simp [insN]
  | i + 1, h => by
    obtain ⟨a, b⟩ := insN_spec l i (by omega)
    rw [insN_succ (by omega)]
    refine ⟨insS_ord _ _ a, fun x => ?_⟩
    rw [insS_mem, b, List.take_succ_eq_append_getElem (by omega), ix_get (by omega)]
    simp only [List.mem_append, List.mem_singleton]
    exact Or.comm
theorem ss_ext : ∀ a b : List Int, a.Pairwise (· < ·) → b.Pairwise (· < ·) → (∀ x, x ∈ a ↔ x ∈ b) → a = b
  | [], [], _, _, _ => rfl
  | [], b :: bs, _, _, h => absurd ((h b).2 (by simp)) (by simp)
  | a :: ar, [], _, _, h => absurd ((h a).1 (by simp)) (by simp)
  | a :: ar, b :: bs, h1, h2, h => by
    rw [List.pairwise_cons] at h1 h2
    have e : a = b := by
      rcases List.mem_cons.1 ((h a).1 (by simp)) with e | e
      · exact e
      · rcases List.mem_cons.1 ((h b).2 (by simp)) with e2 | e2
        · exact e2.symm
        · have := h1.1 b e2; have := h2.1 a e; omega
    subst e
    rw [ss_ext ar bs h1.2 h2.2 fun x => ?_]
    constructor
    · intro hx
      rcases List.mem_cons.1 ((h x).1 (by simp [hx])) with e | e
      · have := h1.1 x hx; omega
      · exact e
    · intro hx
      rcases List.mem_cons.1 ((h x).2 (by simp [hx])) with e | e
      · have := h2.1 x hx; omega
      · exact e
theorem ddN_spec {l : List Int} (hs : l.Pairwise (· ≤ ·)) : ∀ m, m ≤ l.length → (ddN l m).Pairwise (· < ·) ∧ (∀ x, x ∈ ddN l m ↔ x ∈ l.take m)
  | 0, _ => by simp [ddN]
  | m + 1, h => by
    obtain ⟨a, b⟩ := ddN_spec hs m (by omega)
    have hm : m < l.length := by omega
    have hget : ∀ i (hi : i < m), ix l i ≤ ix l m := fun i hi => by
      rw [ix_get hm, ix_get (show i < l.length by omega)]
      exact List.pairwise_iff_getElem.1 hs i m (by omega) hm hi
    have hle : ∀ x ∈ l.take m, x ≤ ix l m := fun x hx => by
      obtain ⟨i, hi, e⟩ := List.mem_iff_getElem.1 hx
      rw [List.length_take] at hi
      rw [List.getElem_take] at e
      have := hget i (by omega)
      rw [ix_get (show i < l.length by omega), e] at this
      exact this
    simp only [ddN]
    rw [List.take_succ_eq_append_getElem hm]
    split
    · rename_i hc
      refine ⟨List.pairwise_append.2 ⟨a, by simp, fun x hx y hy => ?_⟩, fun x => ?_⟩
      · have hx := (b x).1 hx
        have e : y = ix l m := by simpa using hy
        subst e
        rcases hc with hc | hc
        · subst hc; simp at hx
        · have h1 := hle x hx
          have h3 := hget (m - 1) (by
            rcases Nat.eq_zero_or_pos m with e | e
            · subst e; simp at hx
            · omega)
          have h2 : x ≤ ix l (m - 1) := by
            obtain ⟨i, hi, e⟩ := List.mem_iff_getElem.1 hx
            rw [List.length_take] at hi
            rw [List.getElem_take] at e
            rw [← e, ← ix_get (show i < l.length by omega)]
            by_cases h4 : i = m - 1
            · rw [h4]; exact Int.le_refl _
            · rw [ix_get (show i < l.length by omega), ix_get (show m - 1 < l.length by omega)]
              exact List.pairwise_iff_getElem.1 hs i (m - 1) (by omega) (by omega) (by omega)
          omega
      · simp only [List.mem_append, b x, ix_get hm]
    · rename_i hc
      simp only [not_or, ne_eq, Decidable.not_not] at hc
      refine ⟨a, fun x => ?_⟩
      simp only [List.mem_append, List.mem_singleton, b x]
      constructor
      · exact .inl
      · rintro (e | e)
        · exact e
        · rw [e, ← ix_get hm, hc.2, ix_get (show m - 1 < l.length by omega)]
          exact List.mem_take_iff_getElem.2 ⟨m - 1, by omega, rfl⟩
theorem sortI_perm (l : List Int) : (sortI l).Perm l := List.mergeSort_perm _ _
theorem sortI_ord (l : List Int) : (sortI l).Pairwise (· ≤ ·) := by
  have := List.pairwise_mergeSort (le := fun x y : Int => decide (x ≤ y)) (fun a b c h1 h2 => by simp at h1 h2 ⊢; omega) (fun a b => by simp; omega) l
  exact this.imp fun h => by simpa using h
/-- The reference's list is the real one's. -/
theorem insN_dedup (l : List Int) : insN l l.length = dedupI (sortI l) := by
  have hs : (sortI l).Pairwise (· ≤ ·) := sortI_ord l
  have hp : (sortI l).Perm l := sortI_perm l
  obtain ⟨a, b⟩ := insN_spec l l.length (Nat.le_refl _)
  obtain ⟨c, d⟩ := ddN_spec hs (sortI l).length (Nat.le_refl _)
  refine ss_ext _ _ a c fun x => ?_
  rw [b, List.take_length]
  unfold dedupI
  rw [d, List.take_length]
  exact hp.mem_iff.symm

end Go.Proofs.YtlfincjibiihaaaDoor
end

section
namespace Go.Proofs.YtlfincjibiihaaaDoor
open Go Go.Av Go.Proofs
set_option linter.unusedVariables false
set_option linter.unusedSimpArgs false
set_option linter.unusedSectionVars false
theorem insN_has {l : List Int} {i : Nat} (h : i < l.length) (hc : (insN l i).contains (ix l i) = true) : insN l (i + 1) = insN l i := by
  rw [insN_succ h, insS, if_pos hc]
theorem insN_put {l : List Int} {i j : Nat} (h : i < l.length) (hc : (insN l i).contains (ix l i) = false) (hall : ∀ k < j, ix (insN l i) k < ix l i) (hj : j ≤ (insN l i).length) (hn : j < (insN l i).length → ¬ ix (insN l i) j < ix l i) :
    ((insN l i).map I).take j ++ PV.v (.int .i64 (ix l i)) :: (((insN l i).map I).take (insN l i).length).drop j = (insN l (i + 1)).map I := by
  rw [insN_succ h, insS, if_neg (by simp only [hc]; simp), ins_at hall hj hn, show ((insN l i).map I).take (insN l i).length = (insN l i).map I from List.take_of_length_le (by simp)]
  simp [List.map_take, List.map_drop, I]
theorem hall_succ {o : List Int} {n : Int} {j : Nat} (hall : ∀ k < j, ix o k < n) (h : decide (ix o j < n) = true) : ∀ k < j + 1, ix o k < n := fun k hk => by
  by_cases e : k = j
  · rw [e]; simpa using h
  · exact hall k (by omega)

set_option maxRecDepth 100000 in
set_option maxHeartbeats 2000000 in
theorem refAll_loop (l : List Int) (hl : l.length < 1000000) : ACalls Tryd.prog 20 [.p (.sl 1 (l.map I))] [] (.p (condPV [⟨insN l l.length, List.replicate 32 0, 0, 0⟩])) [] := by
  refine acalls_of (fn := Tryd.f20) Tryd.func20 rfl (by decide) (n := 55) rfl (by simp) (by simp) (by simp [idsOf]) (by simp [idsOf]) ?_
  simp only [argT]
  refine aw_reg rfl fun Khk1 hk1 => ?_
  simp only [go_sem, I, condPV, brPV, List.map_cons, List.map_nil]
  refine hk1 _ ?_
  refine aw_reg rfl fun Khk2 hk2 => ?_
  simp only [go_sem, I, condPV, brPV, List.map_cons, List.map_nil]
  refine hk2 _ ?_
  refine aw_seq fun Khk3 hk3 => ?_
  refine aw_reg rfl fun Khk4 hk4 => ?_
  simp only [go_sem, I, condPV, brPV, List.map_cons, List.map_nil]
  refine hk4 _ ?_
  refine aw_block ?_
  refine aw_loop (α := {i : Nat // i ≤ l.length})
    (fun x => ⟨55, [(4, .p (.v (.int .i64 x.1))), (3, .p (.sl 1 ((insN l x.1).map I))), (2, .ptr 2 []), (0, .p (.sl 1 (l.map I)))], [(2, .row 24 (.p (.st [.v (.slice none 0 0)])))]⟩)
    (fun x => l.length - x.1) ⟨0, by omega⟩ (imp_less (by simp only [go_sem, I, condPV, brPV, List.map_cons, List.map_nil]; simp only [insN, List.take_zero, List.foldl_nil, List.map_nil, le_nil])) fun ⟨i, hi⟩ => ?_
  have hle := insN_len l i hi
  refine aw_seq fun Khk5 hk5 => ?_
  refine aw_reg rfl fun Khk6 hk6 => ?_
  simp only [go_sem, I, condPV, brPV, List.map_cons, List.map_nil]
  refine hk6 _ ?_
  refine aw_cond rfl (fun cc7 => ?_) (fun cc7 => ?_)
  · have hlt : i < l.length := by simpa using cc7
    refine aw_skip ?_
    refine hk5 _ ?_
    refine aw_seq fun Khk8 hk8 => ?_
    refine aw_block ?_
    refine aw_seq fun Khk9 hk9 => ?_
    refine aw_reg rfl fun Khk10 hk10 => ?_
    simp only [go_sem, I, condPV, brPV, List.map_cons, List.map_nil, hlt, ix_map]
    refine bcall0 (has_calls (insN l i) (ix l i) (by omega)) (by simp only [go_sem, I, condPV, brPV, List.map_cons, List.map_nil, hlt, ix_map]) rfl (by simp only [go_sem, I, condPV, brPV, List.map_cons, List.map_nil, hlt, ix_map]) ?_
    simp only [go_sem, I, condPV, brPV, List.map_cons, List.map_nil, hlt, ix_map]
    refine hk10 _ ?_
    refine aw_cond rfl (fun cc11 => ?_) (fun cc11 => ?_)
    · have hc1 : (insN l i).contains (ix l i) = true := cc11
      refine aw_exit ?_
      refine hk8 _ ?_
      refine aw_reg_last rfl fun Khk12 hk12 => ?_
      simp only [go_sem, I, condPV, brPV, List.map_cons, List.map_nil, hlt, ix_map]
      refine hk12 _ ?_
      refine ⟨⟨i + 1, hlt⟩, imp_less (by simp only [go_sem, I, condPV, brPV, List.map_cons, List.map_nil, hlt, ix_map]; exact ⟨le_int (wrap_i64 (by omega) (by omega)), by rw [insN_has hlt hc1]; exact of_eq_true (le_refl' _)⟩), by simp only; omega⟩
    · have hc1 : (insN l i).contains (ix l i) = false := cc11
      refine aw_skip ?_
      refine hk9 _ ?_
      refine aw_reg rfl fun Khk13 hk13 => ?_
      simp only [go_sem, I, condPV, brPV, List.map_cons, List.map_nil, hlt, ix_map]
      refine hk13 _ ?_
      refine aw_seq fun Khk14 hk14 => ?_
      refine aw_block ?_
      refine aw_loop (α := {j : Nat // j ≤ (insN l i).length ∧ ∀ k < j, ix (insN l i) k < ix l i})
        (fun x => ⟨55, [(5, .p (.v (.int .i64 x.1))), (4, .p (.v (.int .i64 i))), (3, .p (.sl 1 ((insN l i).map I))), (2, .ptr 2 []), (0, .p (.sl 1 (l.map I)))], [(2, .row 24 (.p (.st [.v (.slice none 0 0)])))]⟩)
        (fun x => (insN l i).length - x.1) ⟨0, by simp⟩ (imp_less (by simp only [go_sem, I, condPV, brPV, List.map_cons, List.map_nil, hlt, ix_map])) fun ⟨j, hj, hall⟩ => ?_
      refine aw_seq fun Khk15 hk15 => ?_
      refine aw_draw _ (by kernel_rfl) rfl rfl fun Jhk16 hk16 => ?_
      simp only [go_sem, I, condPV, brPV, List.map_cons, List.map_nil, hlt, ix_map]
      refine cg_split (fun cc17 => ?_) (fun cc17 => ?_)
      · have hj2 : j < (insN l i).length := by simpa using cc17
        simp only [go_sem, I, condPV, brPV, List.map_cons, List.map_nil, hlt, ix_map, hj2, cc17]
        refine hk16 _ _ _ ⟨by kernel_rfl, by first | exact trivial | (simp only [go_sem, I, condPV, brPV, List.map_cons, List.map_nil, hlt, ix_map, hj2, cc17])⟩ ?_
        refine aw_cond rfl (fun cc18 => ?_) (fun cc18 => ?_)
        · refine aw_skip ?_
          refine hk15 _ ?_
          refine aw_block ?_
          refine aw_reg_last rfl fun Khk19 hk19 => ?_
          simp only [go_sem, I, condPV, brPV, List.map_cons, List.map_nil, hlt, ix_map, hj2]
          refine hk19 _ ?_
          refine ⟨⟨j + 1, hj2, hall_succ hall (by assumption)⟩, imp_less (by simp only [go_sem, I, condPV, brPV, List.map_cons, List.map_nil, hlt, ix_map, hj2]; exact le_int (wrap_i64 (by omega) (by omega))), by simp only; omega⟩
        · have hn : ¬ ix (insN l i) j < ix l i := by simpa using cc18
          refine aw_exit ?_
          refine hk14 _ ?_
          refine aw_reg rfl fun Khk20 hk20 => ?_
          simp only [go_sem, I, condPV, brPV, List.map_cons, List.map_nil, hlt, ix_map, hj2]
          refine hk20 _ ?_
          refine aw_draw_last _ (by kernel_rfl) rfl rfl fun Jhk21 hk21 => ?_
          simp only [go_sem, I, condPV, brPV, List.map_cons, List.map_nil, hlt, ix_map, hj2]
          refine ⟨⟨by omega, hj⟩, by simp; omega, by simp; omega, ⟨hj, Nat.le_refl _⟩, by simp; omega, ?_⟩
          refine hk21 _ _ _ ⟨by kernel_rfl, by first | exact trivial | (simp only [go_sem, I, condPV, brPV, List.map_cons, List.map_nil, hlt, ix_map, hj2])⟩ ?_
          refine hk8 _ ?_
          refine aw_reg_last rfl fun Khk22 hk22 => ?_
          simp only [go_sem, I, condPV, brPV, List.map_cons, List.map_nil, hlt, ix_map, hj2]
          refine hk22 _ ?_
          refine ⟨⟨i + 1, hlt⟩, imp_less (by simp only [go_sem, I, condPV, brPV, List.map_cons, List.map_nil, hlt, ix_map, hj2]; exact ⟨le_int (wrap_i64 (by omega) (by omega)), le_sltE (insN_put hlt hc1 hall hj fun _ => hn)⟩), by simp only; omega⟩
      · have hj3 : j = (insN l i).length := by simp at cc17; omega
        simp only [go_sem, I, condPV, brPV, List.map_cons, List.map_nil, hlt, ix_map, cc17]
        refine hk16 _ _ _ ⟨by kernel_rfl, by first | exact trivial | (simp only [go_sem, I, condPV, brPV, List.map_cons, List.map_nil, hlt, ix_map, cc17])⟩ ?_
        refine aw_cond (b := false) (by simp only [go_sem, I, condPV, brPV, List.map_cons, List.map_nil, hlt, ix_map, cc17]) (fun h => by cases h) (fun _ => ?_)
        refine aw_exit ?_
        refine hk14 _ ?_
        refine aw_reg rfl fun Khk23 hk23 => ?_
        simp only [go_sem, I, condPV, brPV, List.map_cons, List.map_nil, hlt, ix_map]
        refine hk23 _ ?_
        refine aw_draw_last _ (by kernel_rfl) rfl rfl fun Jhk24 hk24 => ?_
        simp only [go_sem, I, condPV, brPV, List.map_cons, List.map_nil, hlt, ix_map]
        refine ⟨⟨by omega, hj⟩, by simp; omega, by simp; omega, ⟨hj, Nat.le_refl _⟩, by simp; omega, ?_⟩
        refine hk24 _ _ _ ⟨by kernel_rfl, by first | exact trivial | (simp only [go_sem, I, condPV, brPV, List.map_cons, List.map_nil, hlt, ix_map])⟩ ?_
        refine hk8 _ ?_
        refine aw_reg_last rfl fun Khk25 hk25 => ?_
        simp only [go_sem, I, condPV, brPV, List.map_cons, List.map_nil, hlt, ix_map]
        refine hk25 _ ?_
        refine ⟨⟨i + 1, hlt⟩, imp_less (by simp only [go_sem, I, condPV, brPV, List.map_cons, List.map_nil, hlt, ix_map]; exact ⟨le_int (wrap_i64 (by omega) (by omega)), le_sltE (insN_put hlt hc1 hall hj fun h => by omega)⟩), by simp only; omega⟩
  · have hle2 : i = l.length := by simp at cc7; omega
    subst hle2
    refine aw_exit ?_
    refine hk3 _ ?_
    refine aw_reg rfl fun Khk26 hk26 => ?_
    simp only [go_sem, I, condPV, brPV, List.map_cons, List.map_nil]
    refine hk26 _ ?_
    refine aw_ret ?_
    refine ret_cell rfl rfl rfl ⟨rfl, by simp only [go_sem, I, condPV, brPV, List.map_cons, List.map_nil]⟩ ?_ (by simp only [go_sem, I, condPV, brPV, List.map_cons, List.map_nil])
    simp only [go_sem, I, condPV, brPV, List.map_cons, List.map_nil]

end Go.Proofs.YtlfincjibiihaaaDoor
end

section
namespace Go.Proofs.YtlfincjibiihaaaDoor
open Go Go.Av Go.Proofs Go.RowKit Go.Extern.Stop Go.Stop Go.Extern
set_option linter.unusedVariables false
set_option linter.unusedSimpArgs false

theorem as_valueOf27 (t : Addr) (w : World) : (ReflectliteValue.unpack (.iface 95 (.pointer (some t)))).run Tryd.prog w
    = .ok (.agg #[.pointer (some ⟨3, 95, none⟩), .pointer (some ⟨w.heap.size, 0, none⟩), .int .u64 150]) (w.alloc (.cells #[.pointer (some t)] 95)) := by kernel_rfl
theorem as_type27 (a : Addr) (w : World) : (ReflectliteValue.methodAny (ReflectliteValue.valueError "reflectlite.Value.Type" 0) (fun t _ _ _ => ReflectliteType.toType t) #[.agg #[.pointer (some ⟨3, 95, none⟩), .pointer (some a), .int .u64 150]]).run Tryd.prog w
    = .ok (.iface 172 (.agg #[.pointer (some ⟨3, 95, none⟩)])) w := by kernel_rfl
theorem as_methodKind (h : Value) (w : World) : (Go.method 343 172 (.agg #[h]) "Kind").run Tryd.prog w = .ok (141, h) w := by kernel_rfl
theorem as_kind27 (w : World) : ((ReflectliteType.abiMethod fun t => (fun a : Nat => Value.int IntKind.u8 (a : Int)) <$> Rtype.kind t) #[.pointer (some ⟨3, 95, none⟩)]).run Tryd.prog w = .ok (.int .u8 22) w := by kernel_rfl
theorem as_kind25 (w : World) : ((ReflectliteType.abiMethod fun t => (fun a : Nat => Value.int IntKind.u8 (a : Int)) <$> Rtype.kind t) #[.pointer (some ⟨3, 93, none⟩)]).run Tryd.prog w = .ok (.int .u8 2) w := by kernel_rfl
theorem rlm (z : Sem Value) (f : TypeId → Addr → Nat → Nat → Sem Value) (v : Value) :
    ReflectliteValue.method z f #[v] = (do match ← ReflectliteValue.parts v with | none => z | some (t, a, fl) => f t a fl (fl % 32)) := rfl
theorem as_parts27 (a : Addr) (w : World) : (ReflectliteValue.parts (.agg #[.pointer (some ⟨3, 95, none⟩), .pointer (some a), .int .u64 150])).run Tryd.prog w = .ok (some (95, a, 150)) w := by kernel_rfl
theorem as_isNil27 (a p : Addr) (W : World) (ha : W.cell? a = some (.pointer (some p))) :
    (ReflectliteValue.method (ReflectliteValue.valueError "reflectlite.Value.IsNil" 0) ReflectliteValue.isNil #[.agg #[.pointer (some ⟨3, 95, none⟩), .pointer (some a), .int .u64 150]]).run Tryd.prog W = .ok (.bool false) W := by
  rw [rlm]
  simp only [Sem.run_bind, as_parts27, Result.andThen]
  simp [ReflectliteValue.isNil, loadVar, isAgg, underlying, Tryd.underlying95, ha, Result.andThen]
theorem as_methodElem (h : Value) (w : World) : (Go.method 343 172 (.agg #[h]) "Elem").run Tryd.prog w = .ok (153, .agg #[h]) w := by kernel_rfl
theorem as_methodImplements (h : Value) (w : World) : (Go.method 343 172 (.agg #[h]) "Implements").run Tryd.prog w = .ok (154, .agg #[h]) w := by kernel_rfl
theorem as_methodAssignableTo (h : Value) (w : World) : (Go.method 343 172 (.agg #[h]) "AssignableTo").run Tryd.prog w = .ok (151, .agg #[h]) w := by kernel_rfl
theorem as_elem27 (w : World) : (ReflectliteType.method ReflectliteType.elem #[.agg #[.pointer (some ⟨3, 95, none⟩)]]).run Tryd.prog w = .ok (.iface 172 (.agg #[.pointer (some ⟨3, 93, none⟩)])) w := by kernel_rfl
theorem as_implements25 (w : World) : (ReflectliteType.relation "Implements" ReflectliteType.implements_ #[.agg #[.pointer (some ⟨3, 93, none⟩)], .iface 172 (.agg #[.pointer (some ⟨3, 39, none⟩)])]).run Tryd.prog w = .ok (.bool true) w := by kernel_rfl
theorem as_typeOf25 (v : Value) (w : World) : (ReflectliteType.typeOf #[.iface 93 v]).run Tryd.prog w = .ok (.iface 172 (.agg #[.pointer (some ⟨3, 93, none⟩)])) w := by kernel_rfl
theorem as_assignable25 (w : World) : (ReflectliteType.relation "AssignableTo" ReflectliteType.assignableTo #[.agg #[.pointer (some ⟨3, 93, none⟩)], .iface 172 (.agg #[.pointer (some ⟨3, 93, none⟩)])]).run Tryd.prog w = .ok (.bool true) w := by kernel_rfl
theorem as_valueOf25 (e : Int) (w : World) : (ReflectliteValue.unpack (.iface 93 (.int .i64 e))).run Tryd.prog w
    = .ok (.agg #[.pointer (some ⟨3, 93, none⟩), .pointer (some ⟨w.heap.size, 0, none⟩), .int .u64 130]) (w.alloc (.cells #[.int .i64 e] 93)) := by kernel_rfl
theorem as_elemOf27 (w : World) : (Rtype.elem? 95).run Tryd.prog w = .ok (some 93) w := by kernel_rfl
theorem as_mk25 (p : Addr) (w : World) : (ReflectliteValue.mk 93 p ReflectliteValue.flagAddr).run Tryd.prog w = .ok (.agg #[.pointer (some ⟨3, 93, none⟩), .pointer (some p), .int .u64 386]) w := by kernel_rfl
theorem as_elemV27 (a p : Addr) (W : World) (ha : W.cell? a = some (.pointer (some p))) :
    (ReflectliteValue.method (ReflectliteValue.valueError "reflectlite.Value.Elem" 0) ReflectliteValue.elem #[.agg #[.pointer (some ⟨3, 95, none⟩), .pointer (some a), .int .u64 150]]).run Tryd.prog W
      = .ok (.agg #[.pointer (some ⟨3, 93, none⟩), .pointer (some p), .int .u64 386]) W := by
  rw [rlm]
  simp only [Sem.run_bind, as_parts27, Result.andThen]
  simp [ReflectliteValue.elem, loadVar, isAgg, underlying, Tryd.underlying95, ha, Result.andThen, as_elemOf27, as_mk25]
theorem rls (v x : Value) : ReflectliteValue.set #[v, x] = (do
    let (some (dst, a, fl), some (src, b, _)) := (← ReflectliteValue.parts v, ← ReflectliteValue.parts x)
      | unsupported (.noEntry "extern/(internal/reflectlite.Value).Set.zeroValue")
    if fl / ReflectliteValue.flagAddr % 2 == 0 then unsupported (.noEntry "extern/(internal/reflectlite.Value).Set.unaddressable")
    let val ← loadVar src b
    if ← Rtype.directlyAssignable dst src then storeVar dst a val
    else if ← Rtype.implements dst src then
      if (← Rtype.kind src) == 20 then
        match val with
        | .nilIface => unsupported (.noEntry "extern/reflectlite: a nil value of one interface type handed on as a value of another")
        | _ => storeVar dst a val
      else storeVar dst a (.iface src val)
    else panicString ("reflectlite.Set: value of type " ++ (← Rtype.spelt src) ++ " is not assignable to type " ++ (← Rtype.spelt dst))
    pure (.tuple #[])) := rfl
theorem as_parts25a (a : Addr) (w : World) : (ReflectliteValue.parts (.agg #[.pointer (some ⟨3, 93, none⟩), .pointer (some a), .int .u64 386])).run Tryd.prog w = .ok (some (93, a, 386)) w := by kernel_rfl
theorem as_parts25 (a : Addr) (w : World) : (ReflectliteValue.parts (.agg #[.pointer (some ⟨3, 93, none⟩), .pointer (some a), .int .u64 130])).run Tryd.prog w = .ok (some (93, a, 130)) w := by kernel_rfl
theorem as_direct25 (w : World) : (Rtype.directlyAssignable 93 93).run Tryd.prog w = .ok true w := by kernel_rfl
theorem as_size25 (w : World) : (sizeOf 93).run Tryd.prog w = .ok 1 w := by kernel_rfl
theorem as_set25 (ta b : Addr) (e : Int) (old : Value) (W : World) (hb : W.cell? b = some (.int .i64 e)) (ht : W.cell? ta = some old) (hf : W.frozen? ta = false) :
    (ReflectliteValue.set #[.agg #[.pointer (some ⟨3, 93, none⟩), .pointer (some ta), .int .u64 386], .agg #[.pointer (some ⟨3, 93, none⟩), .pointer (some b), .int .u64 130]]).run Tryd.prog W
      = .ok (.tuple #[]) (W.setCell ta (.int .i64 e)) := by
  rw [rls]
  simp only [Sem.run_bind, as_parts25a, as_parts25, Result.andThen]
  simp [ReflectliteValue.flagAddr, loadVar, isAgg, underlying, Tryd.underlying93, hb, Result.andThen, as_direct25, storeVar, Value.cells, storeCells, Addr.add]
  rw [run_store Tryd.prog W ta _ _ (by rfl)]
  simp [ht, hf]
set_option maxHeartbeats 4000000 in
theorem as_hit (e : Int) (t : Addr) (old : Value) (w : World) (hg : w.cell? ⟨0, 0, none⟩ = some (.iface 172 (.agg #[.pointer (some ⟨3, 39, none⟩)]))) (ht0 : w.cell? t = some old) (hf0 : w.frozen? t = false) :
    Calls Tryd.prog 39 #[.iface 93 (.int .i64 e), .iface 95 (.pointer (some t))] w fun ev w' => ev = .returned (.bool true) ∧ w' = ((((w.alloc (.cells #[.pointer (some t)] 95)).alloc (.cells #[.pointer (some ⟨3, 95, none⟩), .pointer (some ⟨w.heap.size, 0, none⟩), .int .u64 150] 135)).alloc (.cells #[.pointer (some ⟨3, 95, none⟩), .pointer (some ⟨w.heap.size, 0, none⟩), .int .u64 150] 135)).alloc (.cells #[.int .i64 e] 93)).setCell t (.int .i64 e) := by
  have h6 := @run_callFunc_extern Tryd.prog 78 _ (fun args => ReflectliteValue.unpack (args.getD 0 (.tuple #[]))) Tryd.func78 (by kernel_rfl) (by kernel_rfl) (by kernel_rfl) (by kernel_rfl)
  have h7 := @run_callFunc_extern Tryd.prog 79 _ (ReflectliteValue.methodAny (ReflectliteValue.valueError "reflectlite.Value.Type" 0) (fun t _ _ _ => ReflectliteType.toType t)) Tryd.func79 (by kernel_rfl) (by kernel_rfl) (by kernel_rfl) (by kernel_rfl)
  have h8 := @run_callFunc_extern Tryd.prog 80 _ (ReflectliteValue.method (ReflectliteValue.valueError "reflectlite.Value.IsNil" 0) ReflectliteValue.isNil) Tryd.func80 (by kernel_rfl) (by kernel_rfl) (by kernel_rfl) (by kernel_rfl)
  have h27 := @run_callFunc_extern Tryd.prog 141 _ (ReflectliteType.abiMethod fun t => do pure (.int .u8 (← Rtype.kind t))) Tryd.func141 (by kernel_rfl) (by kernel_rfl) (by kernel_rfl) (by kernel_rfl)
  have h37 := @run_callFunc_extern Tryd.prog 153 _ (ReflectliteType.method ReflectliteType.elem) Tryd.func153 (by kernel_rfl) (by kernel_rfl) (by kernel_rfl) (by kernel_rfl)
  have h38 := @run_callFunc_extern Tryd.prog 154 _ (ReflectliteType.relation "Implements" ReflectliteType.implements_) Tryd.func154 (by kernel_rfl) (by kernel_rfl) (by kernel_rfl) (by kernel_rfl)
  have h10 := @run_callFunc_extern Tryd.prog 103 _ ReflectliteType.typeOf Tryd.func103 (by kernel_rfl) (by kernel_rfl) (by kernel_rfl) (by kernel_rfl)
  have h35 := @run_callFunc_extern Tryd.prog 151 _ (ReflectliteType.relation "AssignableTo" ReflectliteType.assignableTo) Tryd.func151 (by kernel_rfl) (by kernel_rfl) (by kernel_rfl) (by kernel_rfl)
  have h11 := @run_callFunc_extern Tryd.prog 104 _ (ReflectliteValue.method (ReflectliteValue.valueError "reflectlite.Value.Elem" 0) ReflectliteValue.elem) Tryd.func104 (by kernel_rfl) (by kernel_rfl) (by kernel_rfl) (by kernel_rfl)
  have h12 := @run_callFunc_extern Tryd.prog 105 _ ReflectliteValue.set Tryd.func105 (by kernel_rfl) (by kernel_rfl) (by kernel_rfl) (by kernel_rfl)
  have tO := as_typeOf25
  have mA := as_methodAssignableTo
  have a25 := as_assignable25
  have v25 := as_valueOf25
  have f6 := as_valueOf27
  have f7 := as_type27
  have mK := as_methodKind
  have mE := as_methodElem
  have mI := as_methodImplements
  have k27 := as_kind27
  have k25 := as_kind25
  have e27 := as_elem27
  have i25 := as_implements25
  have n8 := as_isNil27 ⟨w.heap.size, 0, none⟩ t ((w.alloc (.cells #[.pointer (some t)] 95)).alloc (.cells #[.pointer (some ⟨3, 95, none⟩), .pointer (some ⟨w.heap.size, 0, none⟩), .int .u64 150] 135)) (by simp)
  have hlt : 0 < w.heap.size := by
    rcases Nat.eq_zero_or_pos w.heap.size with h0 | h
    · simp [World.cell?, h0] at hg
    · exact h
  have hg2 : ((w.alloc (.cells #[.pointer (some t)] 95)).alloc (.cells #[.pointer (some ⟨3, 95, none⟩), .pointer (some ⟨w.heap.size, 0, none⟩), .int .u64 150] 135)).cell? ⟨0, 0, none⟩ = some (.iface 172 (.agg #[.pointer (some ⟨3, 39, none⟩)])) := by
    rw [World.cell?_alloc_lt _ _ ⟨0, 0, none⟩ (by simp), World.cell?_alloc_lt _ _ ⟨0, 0, none⟩ hlt]; exact hg
  have htl : t.block < w.heap.size := by
    rcases Nat.lt_or_ge t.block w.heap.size with h | h
    · exact h
    · simp [World.cell?, Array.getElem?_eq_none h] at ht0
  have el := as_elemV27 ⟨w.heap.size, 0, none⟩ t (((w.alloc (.cells #[.pointer (some t)] 95)).alloc (.cells #[.pointer (some ⟨3, 95, none⟩), .pointer (some ⟨w.heap.size, 0, none⟩), .int .u64 150] 135)).alloc (.cells #[.pointer (some ⟨3, 95, none⟩), .pointer (some ⟨w.heap.size, 0, none⟩), .int .u64 150] 135)) (by rw [World.cell?_alloc_lt _ _ ⟨w.heap.size, 0, none⟩ (by simp; omega)]; simp)
  have st := as_set25 t ⟨w.heap.size + 1 + 1 + 1, 0, none⟩ e old ((((w.alloc (.cells #[.pointer (some t)] 95)).alloc (.cells #[.pointer (some ⟨3, 95, none⟩), .pointer (some ⟨w.heap.size, 0, none⟩), .int .u64 150] 135)).alloc (.cells #[.pointer (some ⟨3, 95, none⟩), .pointer (some ⟨w.heap.size, 0, none⟩), .int .u64 150] 135)).alloc (.cells #[.int .i64 e] 93))
    (by rw [World.cell?_alloc_at _ _ _ _ (by simp)]; rfl)
    (by rw [World.cell?_alloc_lt _ _ t (by simp; omega), World.cell?_alloc_lt _ _ t (by simp; omega), World.cell?_alloc_lt _ _ t (by simp; omega), World.cell?_alloc_lt _ _ t htl]; exact ht0)
    (by rw [World.frozen?_alloc_old _ _ t (by simp; omega), World.frozen?_alloc_old _ _ t (by simp; omega), World.frozen?_alloc_old _ _ t (by simp; omega), World.frozen?_alloc_old _ _ t (Nat.ne_of_lt htl)]; exact hf0)
  go_enter Tryd.func39, Tryd.ntmps39
  go_wp2
  refine wp_loop_rounds 1 ?_
  rw [rounds_succ]
  go_wp2
  go_ret
  exact ⟨rfl, rfl⟩

set_option maxHeartbeats 4000000 in
theorem num_pos (n : Int) (w : World) (hg : w.cell? ⟨0, 0, none⟩ = some (.iface 172 (.agg #[.pointer (some ⟨3, 39, none⟩)]))) : Calls Tryd.prog 15 #[.iface 93 (.int .i64 n)] w fun e w' => e = .returned (.int .i64 n) ∧ Go.RowKit.Below w.heap.size w w' := by
  have hlt : 0 < w.heap.size := by
    rcases Nat.lt_or_ge 0 w.heap.size with h | h
    · exact h
    · simp [World.cell?, Array.getElem?_eq_none h] at hg
  have hgA : (w.alloc (.cells #[.int .i64 0] 93)).cell? ⟨0, 0, none⟩ = some (.iface 172 (.agg #[.pointer (some ⟨3, 39, none⟩)])) := by
    rw [World.cell?_alloc_lt _ _ ⟨0, 0, none⟩ hlt]; exact hg
  have htA : (w.alloc (.cells #[.int .i64 0] 93)).cell? ⟨w.heap.size, 0, none⟩ = some (.int .i64 0) := by simp
  have hfA : (w.alloc (.cells #[.int .i64 0] 93)).frozen? ⟨w.heap.size, 0, none⟩ = false := by simp
  go_enter Tryd.func15, Tryd.ntmps15
  go_wp2_with (go_at_call 39; refine (as_hit n _ (.int .i64 0) _ hgA htA hfA).mono ?_; rintro e w' ⟨rfl, rfl⟩)
  go_ret
  refine ⟨rfl, Below.alloc (Below.alloc (Below.alloc (Below.alloc (Below.alloc (Below.refl _ _) (Nat.le_refl _) _) ?_ _) ?_ _) ?_ _) ?_ _⟩ <;> (try simp) <;> (try omega)
theorem num_zero (w : World) : Calls Tryd.prog 15 #[.nilIface] w fun e w' => e = .returned (.int .i64 0) ∧ Go.RowKit.Below w.heap.size w w' := by
  go_enter Tryd.func15, Tryd.ntmps15
  go_wp2
  go_ret
  exact ⟨rfl, (Below.refl _ _).alloc (Nat.le_refl _) _⟩
theorem num_calls (n : Int) : ACalls Tryd.prog 15 [.p (.v (errV n))] [] (.p (.v (.int .i64 n))) [] := by
  refine ⟨by kernel_rfl, fun w F m vals hlen hvals hS => ?_⟩
  obtain ⟨v, rfl⟩ : ∃ v, vals = [v] := List.length_eq_one_iff.1 (by simpa using hlen)
  have hv := (hvals 0 v _ rfl rfl).pv
  subst hv
  obtain ⟨vs, h1, h2⟩ := hS.glob 0 errTypePV rfl
  have h3 := h1.v_inv
  subst h3
  have hg := (h2 0 _ rfl).1
  have fin : ∀ w', Go.RowKit.Below w.heap.size w w' → ∃ x m', Ending.returned (Value.int .i64 n) = .returned x ∧ RepV w' (St.av F m' (hOf [])) m' (hOf []) x (.p (.v (.int .i64 n))) ∧ SimH w' F m' (hOf []) ∧ Fr (Own m (hOf [])) w w' ∧
      (∀ b o, b < w.heap.size → Own m' (hOf []) b o → Own m (hOf []) b o) ∧ ∀ id, hOf [] id ≠ .dead → HOk (hOf [] id) (m id) (hOf [] id) (m' id) := fun w' hb =>
    ⟨_, m, rfl, RepV.of_v rfl, hS.grow (O := fun _ _ => False) (Fr.of_below hb), Fr.of_below hb, fun b o _ ho => ho, fun id _ => HOk.refl _ _⟩
  by_cases hn : n = 0
  · subst hn
    exact (num_zero w).mono fun e w' ⟨he, hb⟩ => by subst he; exact fin w' hb
  · have : errV n = .iface 93 (.int .i64 n) := by simp [errV, hn]
    rw [this]
    exact (num_pos n w hg).mono fun e w' ⟨he, hb⟩ => by subst he; exact fin w' hb
end Go.Proofs.YtlfincjibiihaaaDoor
end
