/- CondBack, the law that a condition that may be is made of its bytes again and one that may not be is made of none, answers true at every condition, as its tied card says; no conditions. -/
import Derived.Test.YtlfincjibiihaaaDoorRows
import Derived.Test.YtlfincjibiihaaaDoorCards
import Derived.Test.YtlfincjibiihaaaDoorTie
import Derived.ChangeSame
import Derived.ChangeVars
import Derived.JoinedOf
import Derived.ProofKit
import Derived.LaidMore
import Derived.OpenShut
import Derived.Carry
import Derived.LaidLaws
import Derived.LaidHandle
import Derived.Stop.Joined
import Derived.SevenTiedAt
import Derived.Test.YtlfincjibiihaaaDoorCondBack6
section
namespace Go.Proofs.YtlfincjibiihaaaDoor
open Go Go.Av Go.Proofs
set_option linter.unusedVariables false
set_option linter.unusedSimpArgs false
set_option linter.unusedSectionVars false
/-! What is laid is read again. -/
theorem valB_dig : ∀ n : Nat, valB (dig n) = n := by
  intro n
  induction n using Nat.strongRecOn with
  | _ n ih =>
    rcases Nat.eq_zero_or_pos n with h | h
    · subst h; simp [dig_zero, valB]
    · rw [dig_pos h, valB_snoc, ih (n / 256) (by omega)]
      omega
theorem dig_head : ∀ n : Nat, 0 < n → ∃ a l, dig n = a :: l ∧ a ≠ 0 := by
  intro n
  induction n using Nat.strongRecOn with
  | _ n ih =>
    intro h
    rw [dig_pos h]
    rcases Nat.eq_zero_or_pos (n / 256) with h0 | h0
    · rw [h0, dig_zero]
      exact ⟨_, [], rfl, by omega⟩
    · obtain ⟨a, l, e, ha⟩ := ih (n / 256) (by omega) h0
      rw [e]
      exact ⟨a, l ++ [((n % 256 : Nat) : Int)], rfl, ha⟩
theorem dgs_dig (n : Nat) (h : n < 18446744073709551616) : dgs (n : Int) (wid n) 0 = dig n ∧ (dig n).length = wid n := by
  have h1 := uintB_eq n h
  simp only [uintB, uintR, List.cons.injEq] at h1
  exact ⟨h1.2, by omega⟩
theorem numR_uint {x most : Int} {rest : List Int} (h0 : 0 ≤ x) (h1 : x ≤ 18446744073709551615) : numR (uintB x ++ rest) most = if x ≤ most then (x, (uintB x).length, true, 0) else (0, 0, false, 4) := by
  obtain ⟨n, rfl⟩ : ∃ n : Nat, x = n := ⟨x.toNat, by omega⟩
  obtain ⟨e1, e2⟩ := dgs_dig n (by omega)
  have hw := wid_le (n : Int)
  have hL : lowR (dig n ++ rest) (wid (n : Int)) = ((n : Int), 0) := by
    have ht : (dig n ++ rest).take (wid (n : Int)) = dig n := List.take_left' e2
    rw [lowR, if_neg (by simp; omega), if_neg, ht, valB_dig]
    rintro ⟨hp, hz⟩
    have hn : 0 < n := by
      rcases Nat.eq_zero_or_pos n with e | e
      · subst e
        have : (dig 0).length = 0 := by rw [dig_zero]; rfl
        omega
      · exact e
    obtain ⟨a, l, e, ha⟩ := dig_head n hn
    rw [e] at hz
    exact ha hz
  have hu : uintB (n : Int) ++ rest = (wid (n : Int) : Int) :: (dig n ++ rest) := by rw [uintB, e1]; rfl
  have hi : ix (uintB (n : Int) ++ rest) 0 = (wid (n : Int) : Int) := by rw [hu]; rfl
  have hd : (uintB (n : Int) ++ rest).drop 1 = dig n ++ rest := by rw [hu]; rfl
  have hl : ¬ (uintB (n : Int) ++ rest).length = 0 := by rw [hu]; simp
  rw [numR, if_neg hl, hi, hd, Int.toNat_natCast, hL, if_neg (by omega), if_neg (by simp)]
  by_cases hm : (n : Int) ≤ most
  · rw [if_neg (by simp only; omega), if_pos hm, uintB_len, Nat.add_comm]
  · rw [if_pos (by simp only; omega), if_neg hm]
theorem mUint_read {l : List Int} {s : Nat × Int} {x most : Int} {rest : List Int} (h0 : 0 ≤ x) (h1 : x ≤ 18446744073709551615) (hs : s.2 = 0) (hd : l.drop s.1 = uintB x ++ rest) :
    mUint l s most = if x ≤ most then (x, s.1 + (uintB x).length, 0) else (0, s.1, 4) := by
  rw [mUint, if_neg (fun h => h hs), hd, numR_uint h0 h1]
  by_cases hm : x ≤ most
  · simp only [if_pos hm]; rfl
  · simp only [if_neg hm]; rfl
theorem mCount_read {l : List Int} {s : Nat × Int} {x most : Int} {rest : List Int} (h0 : 0 ≤ x) (h1 : x ≤ 18446744073709551615) (hs : s.2 = 0) (hd : l.drop s.1 = uintB x ++ rest) (hr : x ≤ rest.length) :
    mCount l s most = if x ≤ most then (x, s.1 + (uintB x).length, 0) else (0, s.1, 4) := by
  rw [mCount, if_neg (fun h => h hs), hd, numR_uint h0 h1]
  by_cases hm : x ≤ most
  · simp only [if_pos hm]
    rw [if_neg (by simp), if_neg (by simp; omega)]
  · simp only [if_neg hm]; rfl
theorem mHash_read {l : List Int} {s : Nat × Int} {h rest : List Int} (hh : h.length = 32) (hs : s.2 = 0) (hd : l.drop s.1 = h ++ rest) : mHash l s = (h, s.1 + 32, 0) := by
  have hl : 32 ≤ l.length - s.1 := by rw [← List.length_drop, hd]; simp; omega
  rw [mHash, if_neg (fun h => h hs), if_neg (by omega), hd, List.take_left' hh]
theorem drop_more {l a rest : List Int} {p : Nat} (h : l.drop p = a ++ rest) : l.drop (p + a.length) = rest := by
  rw [← List.drop_drop, h, List.drop_left]
theorem mUint_live {l : List Int} {s : Nat × Int} {most : Int} (h : (mUint l s most).2.2 = 0) : s.2 = 0 := by
  unfold mUint at h
  split at h
  · exact h
  · rename_i h1; exact Decidable.not_not.1 h1
theorem mCount_live {l : List Int} {s : Nat × Int} {most : Int} (h : (mCount l s most).2.2 = 0) : s.2 = 0 := by
  unfold mCount at h
  split at h
  · exact h
  · rename_i h1; exact Decidable.not_not.1 h1
theorem mHash_live {l : List Int} {s : Nat × Int} (h : (mHash l s).2.2 = 0) : s.2 = 0 := by
  unfold mHash at h
  split at h
  · exact h
  · rename_i h1; exact Decidable.not_not.1 h1
theorem mKeys_live {l : List Int} {s : Nat × Int} : ∀ n, (mKeys l n s).2.2 = 0 → s.2 = 0
  | 0, h => h
  | n + 1, h => mKeys_live n (mUint_live h)
theorem mBr_live {l : List Int} {s : Nat × Int} (h : (mBr l s).2.2 = 0) : s.2 = 0 := mCount_live (mKeys_live _ (mHash_live (mUint_live (mUint_live h))))
theorem mBrs_live {l : List Int} {s : Nat × Int} : ∀ n, (mBrs l n s).2.2 = 0 → s.2 = 0
  | 0, h => h
  | n + 1, h => mBrs_live n (mBr_live h)
/-- An int. -/
def i64ok (k : Int) : Prop := -9223372036854775808 ≤ k ∧ k < 9223372036854775808
theorem u64_of {k : Int} (h : i64ok k) : u64 k = if 0 ≤ k then k else k + 18446744073709551616 := by
  unfold i64ok at h
  have e : u64 k = k % 18446744073709551616 := by simp [u64, IntKind.wrap, IntKind.bits, IntKind.signed]
  rw [e]
  split <;> omega
theorem u64_low {k m : Int} (h : i64ok k) (hk : u64 k ≤ m) (hm : m < 9223372036854775808) : u64 k = k := by
  have := u64_of h
  unfold i64ok at h
  split at this
  · exact this
  · omega
theorem u64_same {k : Int} (h : i64ok k) (hk : 0 ≤ k) : u64 k = k := by rw [u64_of h, if_pos hk]
def brW (b : Br) : Prop := (∀ k ∈ b.keys, i64ok k) ∧ i64ok b.after ∧ i64ok b.older ∧ b.lock.length = 32 ∧ b.keys.length ≤ 1000000
theorem keysB_split {ks : List Int} {n : Nat} (h : n < ks.length) : ∃ t, keysB ks ks.length = keysB ks n ++ (uintB (u64 (ix ks n)) ++ t) := by
  refine ⟨(ks.drop (n + 1)).flatMap fun k => uintB (u64 k), ?_⟩
  have e : ks.take ks.length = ks.take n ++ (ix ks n :: ks.drop (n + 1)) := by
    rw [List.take_length, ix_get h, ← List.drop_eq_getElem_cons h, List.take_append_drop]
  unfold keysB
  rw [e]
  simp only [List.flatMap_append, List.flatMap_cons]
theorem ix_mem {l : List Int} {n : Nat} (h : n < l.length) : ix l n ∈ l := by rw [ix_get h]; exact List.getElem_mem h
theorem keys_read {l ks : List Int} {s : Nat × Int} {rest : List Int} (hw : ∀ k ∈ ks, i64ok k) (hs : s.2 = 0) (hd : l.drop s.1 = keysB ks ks.length ++ rest) : ∀ n, n ≤ ks.length →
    ((mKeys l n s).2.2 = 0 → (mKeys l n s).1 = ks.take n ∧ (mKeys l n s).2.1 = s.1 + (keysB ks n).length) ∧ ((∀ k ∈ ks, 0 ≤ k ∧ k ≤ 16) → (mKeys l n s).2.2 = 0)
  | 0, _ => ⟨fun _ => ⟨by simp [mKeys], by simp [mKeys, keysB]⟩, fun _ => hs⟩
  | n + 1, hn => by
    obtain ⟨ih1, ih2⟩ := keys_read hw hs hd n (by omega)
    obtain ⟨t, ht⟩ := keysB_split (show n < ks.length by omega)
    have hmem := ix_mem (show n < ks.length by omega)
    have rd : (mKeys l n s).2.2 = 0 → mUint l (mKeys l n s).2 16 = if u64 (ix ks n) ≤ 16 then (u64 (ix ks n), (mKeys l n s).2.1 + (uintB (u64 (ix ks n))).length, 0) else (0, (mKeys l n s).2.1, 4) := fun hl => by
      obtain ⟨_, hp⟩ := ih1 hl
      refine mUint_read (rest := t ++ rest) (u64_0 _) (u64_1 _) hl ?_
      rw [hp]
      have : l.drop s.1 = keysB ks n ++ ((uintB (u64 (ix ks n)) ++ t) ++ rest) := by rw [hd, ht, List.append_assoc]
      rw [drop_more this, List.append_assoc]
    refine ⟨fun hl => ?_, fun hk => ?_⟩
    · have hl0 : (mKeys l n s).2.2 = 0 := mUint_live hl
      obtain ⟨ha, hp⟩ := ih1 hl0
      have hr := rd hl0
      have hle : u64 (ix ks n) ≤ 16 := by
        rcases Int.lt_or_le 16 (u64 (ix ks n)) with h | h
        · rw [if_neg (by omega)] at hr
          have : (mKeys l (n + 1) s).2.2 = 4 := by simp only [mKeys, hr]
          rw [this] at hl
          cases hl
        · exact h
      rw [if_pos hle] at hr
      have hu := u64_low (hw _ hmem) hle (by omega)
      simp only [mKeys, hr]
      refine ⟨?_, ?_⟩
      · rw [ha, hu, List.take_succ_eq_append_getElem (show n < ks.length by omega), ix_get (show n < ks.length by omega)]
      · rw [hp, keysB_succ (show n < ks.length by omega), List.length_append, Nat.add_assoc]
    · have hl0 := ih2 hk
      have hr := rd hl0
      obtain ⟨k0, k1⟩ := hk _ hmem
      rw [u64_same (hw _ hmem) k0, if_pos k1] at hr
      simp only [mKeys, hr]
theorem keysB_ge (ks : List Int) : ks.length ≤ (keysB ks ks.length).length := by
  unfold keysB
  rw [List.take_length]
  induction ks with
  | nil => simp
  | cons a l ih => simp only [List.flatMap_cons, List.length_append, List.length_cons, uintB_len]; omega
def brFit (b : Br) : Prop := b.keys.length ≤ 16 ∧ (∀ k ∈ b.keys, 0 ≤ k ∧ k ≤ 16) ∧ 0 ≤ b.after ∧ b.after ≤ 1099511627776 ∧ 0 ≤ b.older ∧ b.older ≤ 65536
theorem br_read {l : List Int} {s : Nat × Int} {b : Br} {rest : List Int} (hw : brW b) (hs : s.2 = 0) (hd : l.drop s.1 = brB b ++ rest) :
    ((mBr l s).2.2 = 0 → (mBr l s).1 = b ∧ (mBr l s).2.1 = s.1 + (brB b).length) ∧ (brFit b → (mBr l s).2.2 = 0) := by
  obtain ⟨hwk, hwa, hwo, hlk, hkl⟩ := hw
  have hd1 : l.drop s.1 = uintB b.keys.length ++ (keysB b.keys b.keys.length ++ (b.lock ++ (uintB (u64 b.after) ++ (uintB (u64 b.older) ++ rest)))) := by rw [hd, brB]; simp only [List.append_assoc]
  have hge := keysB_ge b.keys
  have hc := mCount_read (most := 16) (x := b.keys.length) (by omega) (by omega) hs hd1 (by simp only [List.length_append]; omega)
  have hd2 := drop_more hd1
  -- where each begins
  have after : (b.keys.length : Int) ≤ 16 → mCount l s 16 = ((b.keys.length : Int), s.1 + (uintB b.keys.length).length, 0) := fun h => by rw [hc, if_pos h]
  have kr := keys_read (s := (s.1 + (uintB b.keys.length).length, 0)) hwk rfl hd2 b.keys.length (Nat.le_refl _)
  have step : (b.keys.length : Int) ≤ 16 → (mKeys l b.keys.length (s.1 + (uintB b.keys.length).length, 0)).2.2 = 0 →
      mBr l s = (⟨b.keys, b.lock, (mUint l (s.1 + (uintB b.keys.length).length + (keysB b.keys b.keys.length).length + 32, 0) 1099511627776).1, (mUint l (mUint l (s.1 + (uintB b.keys.length).length + (keysB b.keys b.keys.length).length + 32, 0) 1099511627776).2 65536).1⟩, (mUint l (mUint l (s.1 + (uintB b.keys.length).length + (keysB b.keys b.keys.length).length + 32, 0) 1099511627776).2 65536).2) ∧
      l.drop (s.1 + (uintB b.keys.length).length + (keysB b.keys b.keys.length).length + 32) = uintB (u64 b.after) ++ (uintB (u64 b.older) ++ rest) := fun h hk => by
    obtain ⟨k1, k2⟩ := kr.1 hk
    have hd3 := drop_more hd2
    have ek : mKeys l b.keys.length (s.1 + (uintB b.keys.length).length, 0) = (b.keys, s.1 + (uintB b.keys.length).length + (keysB b.keys b.keys.length).length, 0) := by
      refine Prod.ext ?_ (Prod.ext ?_ ?_)
      · rw [k1, List.take_length]
      · exact k2
      · exact hk
    have eh := mHash_read (s := (s.1 + (uintB b.keys.length).length + (keysB b.keys b.keys.length).length, 0)) hlk rfl hd3
    refine ⟨?_, ?_⟩
    · simp only [mBr, after h, Int.toNat_natCast, ek, eh]
    · have := drop_more hd3
      rw [hlk] at this
      exact this
  have tail : ∀ p : Nat, l.drop p = uintB (u64 b.after) ++ (uintB (u64 b.older) ++ rest) → ((mUint l (mUint l (p, 0) 1099511627776).2 65536).2.2 = 0 → (mUint l (p, 0) 1099511627776).1 = b.after ∧ (mUint l (mUint l (p, 0) 1099511627776).2 65536).1 = b.older ∧ (mUint l (mUint l (p, 0) 1099511627776).2 65536).2.1 = p + (uintB (u64 b.after)).length + (uintB (u64 b.older)).length) ∧
      (brFit b → (mUint l (mUint l (p, 0) 1099511627776).2 65536).2.2 = 0) := fun p hp => by
    have ha := mUint_read (s := (p, 0)) (most := 1099511627776) (u64_0 _) (u64_1 _) rfl hp
    have hp2 := drop_more hp
    have ho := mUint_read (s := (p + (uintB (u64 b.after)).length, 0)) (most := 65536) (u64_0 _) (u64_1 _) rfl hp2
    refine ⟨fun hl => ?_, fun hf => ?_⟩
    · have hla := mUint_live hl
      have hle : u64 b.after ≤ 1099511627776 := by
        rcases Int.lt_or_le 1099511627776 (u64 b.after) with h | h
        · rw [if_neg (by omega)] at ha
          rw [ha] at hla
          cases hla
        · exact h
      rw [if_pos hle] at ha
      rw [ha] at hl ⊢
      simp only at hl ⊢
      have hle2 : u64 b.older ≤ 65536 := by
        rcases Int.lt_or_le 65536 (u64 b.older) with h | h
        · rw [if_neg (by omega)] at ho
          rw [ho] at hl
          cases hl
        · exact h
      rw [if_pos hle2] at ho
      rw [ho]
      exact ⟨u64_low hwa hle (by omega), u64_low hwo hle2 (by omega), rfl⟩
    · obtain ⟨_, _, a0, a1, o0, o1⟩ := hf
      rw [u64_same hwa a0] at ha ho
      rw [if_pos a1] at ha
      rw [u64_same hwo o0, if_pos o1] at ho
      rw [ha]
      simp only
      rw [ho]
  refine ⟨fun hl => ?_, fun hf => ?_⟩
  · have hcl : (mCount l s 16).2.2 = 0 := mKeys_live _ (mHash_live (mUint_live (mUint_live hl)))
    have hk16 : (b.keys.length : Int) ≤ 16 := by
      rcases Int.lt_or_le 16 (b.keys.length : Int) with h | h
      · rw [hc, if_neg (by omega)] at hcl
        cases hcl
      · exact h
    have hkk : (mKeys l (mCount l s 16).1.toNat (mCount l s 16).2).2.2 = 0 := mHash_live (mUint_live (mUint_live hl))
    rw [after hk16] at hkk
    simp only [Int.toNat_natCast] at hkk
    obtain ⟨e, hp⟩ := step hk16 hkk
    rw [e] at hl ⊢
    obtain ⟨t1, t2, t3⟩ := (tail _ hp).1 hl
    simp only
    rw [t1, t2, t3]
    refine ⟨rfl, ?_⟩
    simp only [brB, List.length_append, hlk]
    omega
  · have hk16 : (b.keys.length : Int) ≤ 16 := by have := hf.1; omega
    have hkk := kr.2 hf.2.1
    obtain ⟨e, hp⟩ := step hk16 hkk
    rw [e]
    exact (tail _ hp).2 hf
theorem brs_split {c : List Br} {n : Nat} (h : n < c.length) : ∃ t, c.flatMap brB = (c.take n).flatMap brB ++ (brB (ix c n) ++ t) := by
  refine ⟨(c.drop (n + 1)).flatMap brB, ?_⟩
  have e : c = c.take n ++ (ix c n :: c.drop (n + 1)) := by rw [ix_get h, ← List.drop_eq_getElem_cons h, List.take_append_drop]
  conv => lhs; rw [e]
  simp only [List.flatMap_append, List.flatMap_cons]
theorem brs_read {l : List Int} {c : List Br} {s : Nat × Int} {rest : List Int} (hw : ∀ b ∈ c, brW b) (hs : s.2 = 0) (hd : l.drop s.1 = c.flatMap brB ++ rest) : ∀ n, n ≤ c.length →
    ((mBrs l n s).2.2 = 0 → (mBrs l n s).1 = c.take n ∧ (mBrs l n s).2.1 = s.1 + ((c.take n).flatMap brB).length) ∧ ((∀ b ∈ c, brFit b) → (mBrs l n s).2.2 = 0)
  | 0, _ => ⟨fun _ => ⟨by simp [mBrs], by simp [mBrs]⟩, fun _ => hs⟩
  | n + 1, hn => by
    obtain ⟨ih1, ih2⟩ := brs_read hw hs hd n (by omega)
    obtain ⟨t, ht⟩ := brs_split (show n < c.length by omega)
    have hmem : ix c n ∈ c := by rw [ix_get (show n < c.length by omega)]; exact List.getElem_mem _
    have rd : (mBrs l n s).2.2 = 0 → l.drop (mBrs l n s).2.1 = brB (ix c n) ++ (t ++ rest) := fun hl => by
      obtain ⟨_, hp⟩ := ih1 hl
      rw [hp]
      have : l.drop s.1 = (c.take n).flatMap brB ++ ((brB (ix c n) ++ t) ++ rest) := by rw [hd, ht, List.append_assoc]
      rw [drop_more this, List.append_assoc]
    refine ⟨fun hl => ?_, fun hf => ?_⟩
    · have hl1 : (mBr l (mBrs l n s).2).2.2 = 0 := hl
      have hl0 := mBr_live hl1
      obtain ⟨ha, hp⟩ := ih1 hl0
      obtain ⟨b1, b2⟩ := (br_read (hw _ hmem) hl0 (rd hl0)).1 hl1
      rw [mBrs_s]
      simp only
      refine ⟨?_, ?_⟩
      · rw [b1, ha, List.take_succ_eq_append_getElem (show n < c.length by omega), ix_get (show n < c.length by omega)]
      · rw [b2, hp, List.take_succ_eq_append_getElem (show n < c.length by omega), ← ix_get (show n < c.length by omega)]
        simp only [List.flatMap_append, List.flatMap_cons, List.flatMap_nil, List.append_nil, List.length_append]
        omega
    · have hl0 := ih2 hf
      exact (br_read (hw _ hmem) hl0 (rd hl0)).2 (hf _ hmem)
theorem flat_ge (c : List Br) : c.length ≤ (c.flatMap brB).length := by
  induction c with
  | nil => simp
  | cons a l ih =>
    have : 1 ≤ (brB a).length := by simp only [brB, List.length_append, uintB_len]; omega
    simp only [List.flatMap_cons, List.length_append, List.length_cons]
    omega
theorem cond_may {c : List Br} (h : condOk c = true) : 1 ≤ c.length ∧ c.length ≤ 8 ∧ ∀ b ∈ c, mayB b = true := by
  simp only [condOk, Bool.and_eq_true, decide_eq_true_eq] at h
  refine ⟨h.1.1, h.1.2, fun b hb => ?_⟩
  have h2 := h.2
  unfold oddAt at h2
  split at h2
  · rename_i i hi; omega
  · rename_i hi
    rw [List.findIdx?_eq_none_iff] at hi
    have := hi b hb
    simpa using this
theorem ix_ge {l : List Int} (h : ∀ i < l.length, keyOk l i = true) : ∀ i, i < l.length → (i : Int) ≤ ix l i
  | 0, hi => by
    have := h 0 hi
    simp [keyOk] at this
    omega
  | i + 1, hi => by
    have h1 := ix_ge h i (by omega)
    have := h (i + 1) hi
    simp [keyOk] at this
    omega
theorem may_fit {b : Br} (h : mayB b = true) : brFit b := by
  simp only [mayB, Bool.and_eq_true, decide_eq_true_eq, List.all_eq_true, List.mem_range] at h
  obtain ⟨⟨⟨⟨⟨h1, h2⟩, h3⟩, h4⟩, h5⟩, h6⟩ := h
  have hk : ∀ i < b.keys.length, 0 ≤ ix b.keys i ∧ ix b.keys i < 16 := fun i hi => by
    have := h1 i hi
    simp only [keyOk, Bool.and_eq_true, decide_eq_true_eq] at this
    exact this.1
  refine ⟨?_, fun k hkm => ?_, h3, h4, h5, h6⟩
  · have g1 := ix_ge h1 (b.keys.length - 1) (by omega)
    have g2 := hk (b.keys.length - 1) (by omega)
    omega
  · obtain ⟨i, hi, e⟩ := List.mem_iff_getElem.1 hkm
    have := hk i hi
    rw [ix_get hi, e] at this
    omega
/-- A condition that may be is made of its bytes again; one that may not be is made of none. -/
theorem dec_put {c : List Br} (hc : c.length ≤ 1000000) (hw : ∀ b ∈ c, brW b) : mDec (putB c) = if condOk c = true then (c, 0) else ([], 3) := by
  have hp : (putB c).drop 0 = uintB c.length ++ (c.flatMap brB ++ []) := by simp [putB, condB]
  have hge := flat_ge c
  have hcn := mCount_read (l := putB c) (s := (0, 0)) (most := 8) (x := c.length) (by omega) (by omega) rfl hp (by rw [List.append_nil]; omega)
  have hd1 := drop_more hp
  have rdb := brs_read (l := putB c) (s := (0 + (uintB c.length).length, 0)) hw rfl hd1 c.length (Nat.le_refl _)
  have hlen : (putB c).length = (uintB c.length).length + (c.flatMap brB).length := by simp [putB, condB]
  by_cases h8 : (c.length : Int) ≤ 8
  · rw [if_pos h8] at hcn
    have live : (mBrs (putB c) c.length (0 + (uintB c.length).length, 0)).2.2 = 0 → mDec (putB c) = if condOk c = true then (c, 0) else ([], 3) := fun hl => by
      obtain ⟨r1, r2⟩ := rdb.1 hl
      rw [List.take_length] at r1 r2
      simp only [mDec, hcn, Int.toNat_natCast, r1]
      have hdn : mDone (putB c) (mBrs (putB c) c.length (0 + (uintB c.length).length, 0)).2 = 0 := by
        rw [mDone, if_neg (fun h => h hl), r2, if_neg (by omega)]
      rw [hdn, if_neg (by simp)]
      cases condOk c <;> rfl
    cases hck : condOk c with
    | true =>
      obtain ⟨_, _, hm⟩ := cond_may hck
      have := live (rdb.2 fun b hb => may_fit (hm b hb))
      rw [hck] at this
      exact this
    | false =>
      by_cases hl : (mBrs (putB c) c.length (0 + (uintB c.length).length, 0)).2.2 = 0
      · have := live hl
        rw [hck] at this
        exact this
      · simp only [mDec, hcn, Int.toNat_natCast]
        rw [if_pos]
        · simp
        · rw [mDone, if_pos hl]; exact hl
  · rw [if_neg h8] at hcn
    have hck : condOk c = false := by
      cases h : condOk c with
      | false => rfl
      | true => have := (cond_may h).2.1; omega
    simp only [mDec, hcn]
    rw [if_pos]
    · simp [hck]
    · show mDone (putB c) (0, 4) ≠ 0
      simp [mDone]

end Go.Proofs.YtlfincjibiihaaaDoor
end

section
namespace Go.Proofs.YtlfincjibiihaaaDoor
open Go Go.Av Go.Proofs
set_option linter.unusedVariables false
set_option linter.unusedSimpArgs false
set_option linter.unusedSectionVars false
set_option maxRecDepth 100000 in
set_option maxHeartbeats 2000000 in
theorem equal_self (xs : List PV) (bb : List UInt8) (hbb : xs = u8s bb) : ACalls Tryd.prog 75 [.p (.sl 1 xs), .p (.sl 1 xs)] [] (.p (.v (.bool true))) [] := by
  refine acalls_of (fn := Tryd.f75) Tryd.func75 rfl (by decide) (n := 10) rfl (by simp) (by simp) (by simp [idsOf]) (by simp [idsOf]) ?_
  simp only [argT]
  refine aw_reg rfl fun Khk1 hk1 => ?_
  simp only [go_sem, beq_self_eq_true]
  refine hk1 _ ?_
  refine aw_reg rfl fun Khk2 hk2 => ?_
  simp only [go_sem, beq_self_eq_true]
  refine bcust (cust_str (l := bb) (xs := xs) (by simp only [go_sem, beq_self_eq_true]) hbb isStr9 el26 ik5) (by simp only [go_sem, beq_self_eq_true]) (by simp only [go_sem, beq_self_eq_true]) (by simp only [go_sem, beq_self_eq_true]) ?_
  simp only [go_sem, beq_self_eq_true]
  refine bcust (cust_str (l := bb) (xs := xs) (by simp only [go_sem, beq_self_eq_true]) hbb isStr9 el26 ik5) (by simp only [go_sem, beq_self_eq_true]) (by simp only [go_sem, beq_self_eq_true]) (by simp only [go_sem, beq_self_eq_true]) ?_
  simp only [go_sem, beq_self_eq_true]
  refine hk2 _ ?_
  refine aw_ret ?_
  refine ret_tmp ?_ trivial
  simp only [go_sem, beq_self_eq_true]

set_option maxRecDepth 100000 in
set_option maxHeartbeats 2000000 in
theorem same_self (c : List Br) (hc : cOk c) (hr : ∀ b ∈ c, bRng b) : ACalls Tryd.prog 34 [.p (condPV c), .p (condPV c)] [] (.p (.v (.bool true))) [] := by
  refine acalls_of (fn := Tryd.f34) Tryd.func34 rfl (by decide) (n := 10) rfl (by simp) (by simp) (by simp [idsOf]) (by simp [idsOf]) ?_
  simp only [argT]
  obtain ⟨bb, hbb⟩ : ∃ b : List UInt8, (putB c).map B = u8s b := u8s_ex (rng_put hr)
  refine aw_reg rfl fun Khk1 hk1 => ?_
  simp only [go_sem, List.nil_append, condPV]
  refine hk1 _ ?_
  refine aw_draw _ (by kernel_rfl) rfl rfl fun Jhk2 hk2 => ?_
  simp only [go_sem, List.nil_append, condPV]
  refine ccall0 (put_calls [] c (by simp) hc) (by simp only [go_sem, List.nil_append, condPV]) rfl (by simp only [go_sem, List.nil_append, condPV]) ?_
  simp only [go_sem, List.nil_append, condPV]
  refine ccall0 (put_calls [] c (by simp) hc) (by simp only [go_sem, List.nil_append, condPV]) rfl (by simp only [go_sem, List.nil_append, condPV]) ?_
  simp only [go_sem, List.nil_append, condPV]
  refine ccall0 (equal_self ((putB c).map B) bb hbb) (by simp only [go_sem, List.nil_append, condPV]) rfl (by simp only [go_sem, List.nil_append, condPV]) ?_
  simp only [go_sem, List.nil_append, condPV]
  refine hk2 _ _ _ ⟨by kernel_rfl, by first | exact trivial | (simp only [go_sem, List.nil_append, condPV])⟩ ?_
  refine aw_ret ?_
  refine ret_tmp ?_ trivial
  simp only [go_sem, List.nil_append, condPV]

theorem num3 : ACalls Tryd.prog 15 [.p (.v (.iface 93 (.int .i64 3)))] [] (.p (.v (.int .i64 3))) [] := num_calls 3
theorem dec_ok {c : List Br} (hc : c.length ≤ 1000) (hw : ∀ b ∈ c, brW b) (hr : ∀ b ∈ c, bRng b) (hl : (putB c).length ≤ 1000000000000000) (h : condOk c = true) :
    ACalls Tryd.prog 33 [.p (.sl 1 ((putB c).map B))] [] (.tup [.p (condPV c), .p (.v .nilIface)]) [] := by
  have := decode_calls (putB c) (rng_put hr) hl
  rw [dec_put (by omega) hw, if_pos h] at this
  exact this
theorem dec_bad {c : List Br} (hc : c.length ≤ 1000) (hw : ∀ b ∈ c, brW b) (hr : ∀ b ∈ c, bRng b) (hl : (putB c).length ≤ 1000000000000000) (h : condOk c = false) :
    ACalls Tryd.prog 33 [.p (.sl 1 ((putB c).map B))] [] (.tup [.p (condPV []), .p (.v (.iface 93 (.int .i64 3)))]) [] := by
  have := decode_calls (putB c) (rng_put hr) hl
  rw [dec_put (by omega) hw, if_neg (by rw [h]; simp)] at this
  exact this
def brIn (b : Br) : Prop := (∀ k ∈ b.keys, i64ok k) ∧ i64ok b.after ∧ i64ok b.older ∧ b.lock.length = 32 ∧ bRng b

set_option maxRecDepth 100000 in
set_option maxHeartbeats 2000000 in
theorem condBack_calls (c : List Br) (hl : lenOk c) (hin : ∀ b ∈ c, brIn b) : ACalls Tryd.prog 9 [.p (condPV c)] [] (.p (.v (.bool true))) [] := by
  refine acalls_of (fn := Tryd.f9) Tryd.func9 rfl (by decide) (n := 42) rfl (by simp) (by simp) (by simp [idsOf]) (by simp [idsOf]) ?_
  simp only [argT]
  refine aw_reg rfl fun Khk1 hk1 => ?_
  simp only [go_sem, List.nil_append, condPV, List.map_nil, List.length_nil, decide_true, beq_self_eq_true]
  refine hk1 _ ?_
  refine aw_seq fun Khk2 hk2 => ?_
  refine aw_reg rfl fun Khk3 hk3 => ?_
  simp only [go_sem, List.nil_append, condPV, List.map_nil, List.length_nil, decide_true, beq_self_eq_true]
  refine bcall0 (long_calls c hl) (by simp only [go_sem, List.nil_append, condPV, List.map_nil, List.length_nil, decide_true, beq_self_eq_true]) rfl (by simp only [go_sem, List.nil_append, condPV, List.map_nil, List.length_nil, decide_true, beq_self_eq_true]) ?_
  simp only [go_sem, List.nil_append, condPV, List.map_nil, List.length_nil, decide_true, beq_self_eq_true]
  refine hk3 _ ?_
  refine aw_cond rfl (fun cc4 => ?_) (fun cc4 => ?_)
  · refine aw_reg rfl fun Khk5 hk5 => ?_
    simp only [go_sem, List.nil_append, condPV, List.map_nil, List.length_nil, decide_true, beq_self_eq_true]
    refine bcall0 (sure_calls) (by simp only [go_sem, List.nil_append, condPV, List.map_nil, List.length_nil, decide_true, beq_self_eq_true]) rfl (by simp only [go_sem, List.nil_append, condPV, List.map_nil, List.length_nil, decide_true, beq_self_eq_true]) ?_
    simp only [go_sem, List.nil_append, condPV, List.map_nil, List.length_nil, decide_true, beq_self_eq_true]
    refine hk5 _ ?_
    refine aw_ret ?_
    refine ret_tmp ?_ trivial
    simp only [go_sem, List.nil_append, condPV, List.map_nil, List.length_nil, decide_true, beq_self_eq_true]
  · have h2 := long_not cc4
    have hcl := csz_len c
    have hcok : cOk c := ⟨by omega, fun b hb => (hin b hb).2.2.2.1⟩
    have hc2 : c.length ≤ 1000 := by omega
    have hr : ∀ b ∈ c, bRng b := fun b hb => (hin b hb).2.2.2.2
    have hbs : brsOk c := ⟨by omega, fun b hb => by have := csz_mem hb; omega⟩
    have hw : ∀ b ∈ c, brW b := fun b hb => by
      obtain ⟨g1, g2, g3, g4, g5⟩ := hin b hb
      have := csz_mem hb
      exact ⟨g1, g2, g3, g4, by omega⟩
    have hpl : (putB c).length ≤ 1000000000000000 := by have := condB_le hcok c.length; unfold putB; omega
    refine aw_skip ?_
    refine hk2 _ ?_
    refine aw_reg rfl fun Khk6 hk6 => ?_
    simp only [go_sem, List.nil_append, condPV, List.map_nil, List.length_nil, decide_true, beq_self_eq_true]
    refine bcall0 (give_calls c (by omega)) (by simp only [go_sem, List.nil_append, condPV, List.map_nil, List.length_nil, decide_true, beq_self_eq_true]) rfl (by simp only [go_sem, List.nil_append, condPV, List.map_nil, List.length_nil, decide_true, beq_self_eq_true]) ?_
    simp only [go_sem, List.nil_append, condPV, List.map_nil, List.length_nil, decide_true, beq_self_eq_true]
    refine hk6 _ ?_
    rcases Bool.eq_false_or_eq_true (condOk c) with hck | hck
    · refine aw_reg rfl fun Khk7 hk7 => ?_
      simp only [go_sem, List.nil_append, condPV, List.map_nil, List.length_nil, decide_true, beq_self_eq_true]
      refine bcall0 (put_calls [] c (by simp) hcok) (by simp only [go_sem, List.nil_append, condPV, List.map_nil, List.length_nil, decide_true, beq_self_eq_true]) rfl (by simp only [go_sem, List.nil_append, condPV, List.map_nil, List.length_nil, decide_true, beq_self_eq_true]) ?_
      simp only [go_sem, List.nil_append, condPV, List.map_nil, List.length_nil, decide_true, beq_self_eq_true]
      refine bcall0 (dec_ok hc2 hw hr hpl hck) (by simp only [go_sem, List.nil_append, condPV, List.map_nil, List.length_nil, decide_true, beq_self_eq_true]) rfl (by simp only [go_sem, List.nil_append, condPV, List.map_nil, List.length_nil, decide_true, beq_self_eq_true]) ?_
      simp only [go_sem, List.nil_append, condPV, List.map_nil, List.length_nil, decide_true, beq_self_eq_true]
      refine hk7 _ ?_
      refine aw_seq fun Khk8 hk8 => ?_
      refine aw_reg rfl fun Khk9 hk9 => ?_
      simp only [go_sem, List.nil_append, condPV, List.map_nil, List.length_nil, decide_true, beq_self_eq_true]
      refine bcall0 (check_ok c hbs hck) (by simp only [go_sem, List.nil_append, condPV, List.map_nil, List.length_nil, decide_true, beq_self_eq_true]) rfl (by simp only [go_sem, List.nil_append, condPV, List.map_nil, List.length_nil, decide_true, beq_self_eq_true]) ?_
      simp only [go_sem, List.nil_append, condPV, List.map_nil, List.length_nil, decide_true, beq_self_eq_true]
      refine hk9 _ ?_
      refine aw_cond rfl (fun cc10 => ?_) (fun cc10 => ?_)
      · cases cc10
      · refine aw_skip ?_
        refine hk8 _ ?_
        refine aw_reg rfl fun Khk11 hk11 => ?_
        simp only [go_sem, List.nil_append, condPV, List.map_nil, List.length_nil, decide_true, beq_self_eq_true]
        refine bcall0 (same_self c hcok hr) (by simp only [go_sem, List.nil_append, condPV, List.map_nil, List.length_nil, decide_true, beq_self_eq_true]) rfl (by simp only [go_sem, List.nil_append, condPV, List.map_nil, List.length_nil, decide_true, beq_self_eq_true]) ?_
        simp only [go_sem, List.nil_append, condPV, List.map_nil, List.length_nil, decide_true, beq_self_eq_true]
        refine bcall0 (sure_calls) (by simp only [go_sem, List.nil_append, condPV, List.map_nil, List.length_nil, decide_true, beq_self_eq_true]) rfl (by simp only [go_sem, List.nil_append, condPV, List.map_nil, List.length_nil, decide_true, beq_self_eq_true]) ?_
        simp only [go_sem, List.nil_append, condPV, List.map_nil, List.length_nil, decide_true, beq_self_eq_true]
        refine hk11 _ ?_
        refine aw_ret ?_
        refine ret_tmp ?_ trivial
        simp only [go_sem, List.nil_append, condPV, List.map_nil, List.length_nil, decide_true, beq_self_eq_true]
    · refine aw_reg rfl fun Khk12 hk12 => ?_
      simp only [go_sem, List.nil_append, condPV, List.map_nil, List.length_nil, decide_true, beq_self_eq_true]
      refine bcall0 (put_calls [] c (by simp) hcok) (by simp only [go_sem, List.nil_append, condPV, List.map_nil, List.length_nil, decide_true, beq_self_eq_true]) rfl (by simp only [go_sem, List.nil_append, condPV, List.map_nil, List.length_nil, decide_true, beq_self_eq_true]) ?_
      simp only [go_sem, List.nil_append, condPV, List.map_nil, List.length_nil, decide_true, beq_self_eq_true]
      refine bcall0 (dec_bad hc2 hw hr hpl hck) (by simp only [go_sem, List.nil_append, condPV, List.map_nil, List.length_nil, decide_true, beq_self_eq_true]) rfl (by simp only [go_sem, List.nil_append, condPV, List.map_nil, List.length_nil, decide_true, beq_self_eq_true]) ?_
      simp only [go_sem, List.nil_append, condPV, List.map_nil, List.length_nil, decide_true, beq_self_eq_true]
      refine hk12 _ ?_
      refine aw_seq fun Khk13 hk13 => ?_
      refine aw_reg rfl fun Khk14 hk14 => ?_
      simp only [go_sem, List.nil_append, condPV, List.map_nil, List.length_nil, decide_true, beq_self_eq_true]
      refine bcall0 (check_bad c hbs hck) (by simp only [go_sem, List.nil_append, condPV, List.map_nil, List.length_nil, decide_true, beq_self_eq_true]) rfl (by simp only [go_sem, List.nil_append, condPV, List.map_nil, List.length_nil, decide_true, beq_self_eq_true]) ?_
      simp only [go_sem, List.nil_append, condPV, List.map_nil, List.length_nil, decide_true, beq_self_eq_true]
      refine hk14 _ ?_
      refine aw_cond rfl (fun cc15 => ?_) (fun cc15 => ?_)
      · refine aw_reg rfl fun Khk16 hk16 => ?_
        simp only [go_sem, List.nil_append, condPV, List.map_nil, List.length_nil, decide_true, beq_self_eq_true]
        refine bcall0 (num3) (by simp only [go_sem, List.nil_append, condPV, List.map_nil, List.length_nil, decide_true, beq_self_eq_true]) rfl (by simp only [go_sem, List.nil_append, condPV, List.map_nil, List.length_nil, decide_true, beq_self_eq_true]) ?_
        simp only [go_sem, List.nil_append, condPV, List.map_nil, List.length_nil, decide_true, beq_self_eq_true]
        refine bcall0 (sure_calls) (by simp only [go_sem, List.nil_append, condPV, List.map_nil, List.length_nil, decide_true, beq_self_eq_true]) rfl (by simp only [go_sem, List.nil_append, condPV, List.map_nil, List.length_nil, decide_true, beq_self_eq_true]) ?_
        simp only [go_sem, List.nil_append, condPV, List.map_nil, List.length_nil, decide_true, beq_self_eq_true]
        refine hk16 _ ?_
        refine aw_ret ?_
        refine ret_tmp ?_ trivial
        simp only [go_sem, List.nil_append, condPV, List.map_nil, List.length_nil, decide_true, beq_self_eq_true]
      · cases cc15

end Go.Proofs.YtlfincjibiihaaaDoor
end

section
namespace Go.Proofs.YtlfincjibiihaaaDoor
open Go Go.Av Go.ChangeShapes Go.WideShapes Go.RowKit
set_option linter.unusedVariables false
set_option maxRecDepth 100000
theorem own : ownKnob Tryd.prog.godebug = none := by kernel_rfl
theorem laidOut : laidOutB Tryd.prog = true := by kernel_rfl
theorem gErr : Tryd.prog.globalNamed "errors.errorType" = some 0 := by kernel_rfl
theorem gOrd : Tryd.prog.globalNamed "bayou/blake.order" = some 2 := by kernel_rfl
theorem tOrd : (Tryd.prog.globals[2]?).map (·.type) = some 208 := by kernel_rfl
theorem rtypeAt : (Tryd.prog.cutTypes.find? (·.1 == "internal/reflectlite.rtype")).map (·.2) = some 172 := by kernel_rfl
theorem typesSize : Tryd.prog.types.size = 243 := by kernel_rfl
theorem oneRow : ((List.range 243).filter fun t => Tryd.prog.rowNamed t [101, 114, 114, 111, 114]) = [39] := by kernel_rfl
theorem errHandle : typeHandle Tryd.prog 39 = .pointer (some ⟨3, 39, none⟩) := by kernel_rfl
abbrev laidL : List (String × DataW Unit) := [("errors.errorType", Rows.laid_errors_errorType), ("bayou/blake.order", Rows.laid_bayou_blake_order)]
theorem orderD : (Rows.laid_bayou_blake_order : DataW Unit) = .agg (orderL.map fun l => .agg (l.map fun z => .lit (.int .u8 z))) := by
  simp only [Rows.laid_bayou_blake_order, orderL, List.map_cons, List.map_nil]
theorem cOrd0 : Tryd.prog.cellsOf 5 = 1 := by kernel_rfl
theorem cOrd1 : Tryd.prog.cellsOf 207 = 16 := by kernel_rfl
theorem cOrd2 : Tryd.prog.cellsOf 208 = 10 * 16 := by kernel_rfl
/-- What the listed variables hold, as trees. -/
theorem glob_of_laid {W : World} (h : laidMetH Tryd.prog laidL W) : GlobOk W (fun _ _ => False) := by
  have h' : laidMet Tryd.prog [("bayou/blake.order", Rows.laid_bayou_blake_order)] W ∧ handlesMet Tryd.prog [("errors.errorType", Rows.laid_errors_errorType)] W := h
  obtain ⟨⟨ps, ⟨g, t, cs, fuel, p, q, e1, e2, e3, e4, _, _⟩, _, _⟩, hh⟩ := h'
  obtain ⟨name, u, ty, f1, f2, f3, f4, f5⟩ := hh _ (List.mem_singleton.2 rfl)
  have en : name = [101, 114, 114, 111, 114] := (Option.some.inj f1).symm
  subst en
  obtain rfl := Option.some.inj (rtypeAt.symm.trans f2)
  have hm : ty ∈ (List.range 243).filter fun t => Tryd.prog.rowNamed t [101, 114, 114, 111, 114] := List.mem_filter.2 ⟨List.mem_range.2 (by rw [← typesSize]; exact f3), f4⟩
  rw [oneRow] at hm
  obtain rfl := List.mem_singleton.1 hm
  rw [errHandle] at f5
  obtain rfl := Option.some.inj (gOrd.symm.trans e1)
  obtain rfl := Option.some.inj (tOrd.symm.trans e2)
  rw [orderD] at e4
  intro g y hg
  have hg' : lkG [(0, errTypePV), (2, orderPV)] g = some y := hg
  simp only [lkG] at hg'
  split at hg'
  · rename_i hgg
    injection hg' with hg'
    subst hgg; subst hg'
    refine ⟨[_], .v rfl, fun j x hj => ⟨?_, fun h => h⟩⟩
    have hj0 : j = 0 := by have := (List.getElem?_eq_some_iff.1 hj).1; simpa using this
    subst hj0
    simp at hj
    subst hj
    simpa using World.var?_cell gErr f5 0
  · split at hg'
    · rename_i hgg
      injection hg' with hg'
      subst hgg; subst hg'
      refine ⟨cs.toList, rep_table Tryd.underlying208 Tryd.underlying207 Tryd.underlying5 cOrd0 cOrd1 cOrd2 e4, fun j x hj => ⟨?_, fun h => h⟩⟩
      have := World.var?_cell e1 e3 (0 + j)
      rw [this]
      simpa using hj
    · cases hg'
/-- The door's own heap meets the condition. -/
theorem door_met (os : Os) (args : Array Value) : laidMetH Tryd.prog laidL ((World.doorLaid Tryd.prog 400 os).forCall (fun _ _ => 0) ⟨#[], args, []⟩).memory :=
  laidMetH_of_parts3 (fuel := 8) (laidMet_of_run' 8 (by kernel_rfl) (by kernel_rfl)) (by kernel_rfl) (by kernel_rfl)
end Go.Proofs.YtlfincjibiihaaaDoor
end

section
namespace Go.Proofs.YtlfincjibiihaaaDoor
open Go Go.Av Go.ChangeShapes Go.WideShapes Go.RowKit
set_option linter.unusedVariables false
set_option maxRecDepth 100000
namespace CondBack
/-- The row of a law with one argument. -/
theorem lifted (hcall : ∀ y : PV, Fits (.st [.sl 35 (.st [.sl 1 (.int .i64), .ints .u8 32, .int .i64, .int .i64])]) y → ACalls Tryd.prog 9 [.p y] [] (.p (.v (.bool true))) []) (os : Os) (started : os.Started) (H : Type) (enc : TypeId × Value → H) :
    ReturnsInHanded {} Tryd.checked os 9 .any (fun w args => (Rows.condBackSpec.pre enc Tryd.prog Tryd.f9 [] false w args ∧ laidMetH Tryd.prog laidL w) ∧ sizedMet enc Tryd.prog Tryd.f9 (OpenSpec.ofChange Rows.condBackSpec) false w args)
      (Rows.condBackSpec.post enc Tryd.prog Tryd.f9 false true false false) := by
  refine returnsInHanded_of_change_and (C := Tryd.checked) (X := fun w _ => laidMetH Tryd.prog laidL w) (fun _ _ _ hh h => h.of_heap hh) own started (by kernel_rfl) Tryd.func9
    (ChangeSpec.witness_at (enc := enc) (C := Tryd.checked) (os := os) (X := fun w _ => laidMetH Tryd.prog laidL w) false (World.doorLaid Tryd.prog 400 os) #[.agg #[.slice none 0 0]] 8 rfl (by kernel_rfl) (by kernel_rfl) (by kernel_rfl) (by kernel_rfl) (by kernel_rfl) (door_met os _)) ?_
  intro W base args ds gs before hval0 hW _ hwt hL _
  have hval : ∀ (j : Nat) t v, Tryd.f9.params[j]? = some t → args[j]? = some v → Value.okWide Tryd.prog W .any base t v := hval0
  have hW' := hW
  obtain ⟨p, q, hA0, hV, rfl, hfz, hnd⟩ := hW
  have hA : DataW.TrodAll enc Tryd.prog W 0 (fun _ => true) true Tryd.f9.params.toList args.toList ds p := hA0
  rw [Tryd.params9] at hA hval
  obtain ⟨v0, vs0, d0, ds0, p0, q0, hargs, rfl, rfl, h0, r0⟩ := trodAll_cons hA
  obtain ⟨rfl, rfl, rfl⟩ := trodAll_nil r0
  obtain rfl : args = #[v0] := by cases args; simp_all
  obtain ⟨rfl, rfl⟩ := trodVars_none hV
  have hw0 : okW Tryd.prog 24 d0 = true := okW_of.2 fun z hz => of_decide_eq_true (List.all_eq_true.1 hwt z (weightsEach_mem 0 (by kernel_rfl) rfl hz))
  obtain ⟨y0, k0, ft0⟩ := repV_of_trod (A := fun _ _ => False) (m := fun _ => default) (Hp := fun _ => .dead) (n := 8) (pl := (.st [.sl 35 (.st [.sl 1 (.int .i64), .ints .u8 32, .int .i64, .int .i64])])) (fun _ _ h => h) (by kernel_rfl) (hval 0 24 v0 rfl rfl) h0 hw0
  have hlt : ∀ x ∈ p0, x.block < W.heap.size := by obtain ⟨m, hm⟩ := h0; exact DataW.trod_lt m _ _ _ hm
  refine ((hcall y0 ft0).closed (vals := [v0]) rfl (fun i x a hx ha => by
    cases i with
    | zero => simp at hx ha; subst hx; subst ha; exact k0
    | succ i => simp at hx) (glob_of_laid hL)).mono fun e W' ⟨he, bel⟩ => ?_
  subst he
  exact ⟨_, rfl, _, _, _, [], _, [], hW', trodAll_mk1 (shut_bool Tryd.underlying4 _), trodAll_cons_mk (Below.trod laidOut (by kernel_rfl) (of_decide_eq_true (by kernel_rfl)) h0 bel hlt) trodAll_mk0, rfl, bel.frame _, fun h => by cases h⟩
theorem over (hcall : ∀ y : PV, Fits (.st [.sl 35 (.st [.sl 1 (.int .i64), .ints .u8 32, .int .i64, .int .i64])]) y → ACalls Tryd.prog 9 [.p y] [] (.p (.v (.bool true))) []) : Rows.CondBackSaid :=
  OpenClaim.holds_of_wide 9 Tryd.f9 rfl rfl rfl rfl rfl rfl rfl ⟨rfl, rfl, rfl, rfl, rfl⟩ rfl rfl rfl rfl rfl (by kernel_rfl) Tryd.func9 (by kernel_rfl)
    (of_decide_eq_true (by kernel_rfl)) (by unfold Func.isWrapper; first | (rw [if_pos (by decide +kernel)]; kernel_rfl) | (rw [if_neg (by decide +kernel)]; exact ⟨rfl, rfl⟩))
    (fun os started H enc _ => lifted hcall os started H enc)
theorem card (hcall : ∀ y : PV, Fits (.st [.sl 35 (.st [.sl 1 (.int .i64), .ints .u8 32, .int .i64, .int .i64])]) y → ACalls Tryd.prog 9 [.p y] [] (.p (.v (.bool true))) []) : Rows.CondBackCardSaid :=
  Claim7.holds_tied_plain_at .later [] [.handle, .data] true (true, "ee778519b9a3556ab26cb4b1a00ee2d634fc14d26379b4494e5fb673a2c0ac9a") true
    (over hcall) (fun _ h => by cases h) (by kernel_rfl) (fun _ h => by cases h) condBack_row_tie rfl ⟨rfl, rfl⟩ (by kernel_rfl) rfl
    (fun f fn hf hfn => by
      obtain rfl : f = 9 := Option.some.inj ((show Tryd.prog.funcNamed "bayou/bayoulaw04.CondBack" = some 9 by kernel_rfl).symm.trans hf) |>.symm
      obtain rfl : fn = Tryd.f9 := (Option.some.inj (Tryd.func9.symm.trans hfn)).symm
      exact ⟨by kernel_rfl, fun j t ht => by
        rw [Tryd.params9] at ht
        have h3 : t = 24 := by
          rcases j with _ | j
          · simpa using ht.symm
          · simp at ht
        subst h3
        exact (show Tryd.prog.wantsStandIn 24 = false by kernel_rfl)⟩)
    (by kernel_rfl)
end CondBack
end Go.Proofs.YtlfincjibiihaaaDoor
end

section
namespace Go.Proofs.YtlfincjibiihaaaDoor
open Go Go.Av Go.Proofs
set_option linter.unusedVariables false
set_option linter.unusedSimpArgs false
set_option linter.unusedSectionVars false
theorem wf_i64 {n : Int} (h : (Lit.int .i64 n).wf = true) : i64ok n := by
  simp [Lit.wf, IntKind.min, IntKind.max, IntKind.signed, IntKind.bits] at h
  unfold i64ok
  omega
theorem wf_u8 {n : Int} (h : (Lit.int .u8 n).wf = true) : 0 ≤ n ∧ n < 256 := by
  simp [Lit.wf, IntKind.min, IntKind.max, IntKind.signed, IntKind.bits] at h
  omega
theorem fits_i64s : ∀ {xs : List PV}, (∀ x ∈ xs, Fits (.int .i64) x) → ∃ l : List Int, xs = l.map I ∧ ∀ k ∈ l, i64ok k
  | [], _ => ⟨[], rfl, fun _ h => by cases h⟩
  | x :: xs, h => by
    obtain ⟨l, e, hl⟩ := fits_i64s (xs := xs) fun y hy => h y (by simp [hy])
    have hx := h x (by simp)
    cases hx with
    | @int _ n hn =>
      refine ⟨n :: l, by rw [e]; rfl, fun k hk => ?_⟩
      rcases List.mem_cons.1 hk with e | e
      · subst e; exact wf_i64 hn
      · exact hl k e
abbrev brPl : Pl := .st [.sl 1 (.int .i64), .ints .u8 32, .int .i64, .int .i64]
theorem fits_br {x : PV} (h : Fits brPl x) : ∃ b : Br, x = brPV b ∧ brIn b ∧ b.keys.length ≤ 1000000000000000 := by
  cases h with
  | stc h1 t1 =>
    cases t1 with
    | stc h2 t2 =>
      cases t2 with
      | stc h3 t3 =>
        cases t3 with
        | stc h4 t4 =>
          cases t4
          cases h1 with
          | sl hk hkl =>
            obtain ⟨ks, rfl, hks⟩ := fits_i64s hk
            cases h2 with
            | @ints _ _ lk hl1 hl2 =>
              cases h3 with
              | @int _ a ha =>
                cases h4 with
                | @int _ o ho =>
                  refine ⟨⟨ks, lk, a, o⟩, rfl, ⟨hks, wf_i64 ha, wf_i64 ho, hl1, fun n hn => wf_u8 (hl2 n hn)⟩, ?_⟩
                  simp only [List.length_map] at hkl
                  simp only
                  omega
theorem fits_brs : ∀ {xs : List PV}, (∀ x ∈ xs, Fits brPl x) → ∃ c : List Br, xs = c.map brPV ∧ (∀ b ∈ c, brIn b) ∧ ∀ b ∈ c, b.keys.length ≤ 1000000000000000
  | [], _ => ⟨[], rfl, (fun _ h => by cases h), fun _ h => by cases h⟩
  | x :: xs, h => by
    obtain ⟨c, e, h1, h2⟩ := fits_brs (xs := xs) fun y hy => h y (by simp [hy])
    obtain ⟨b, rfl, g1, g2⟩ := fits_br (h x (by simp))
    refine ⟨b :: c, by rw [e]; rfl, fun k hk => ?_, fun k hk => ?_⟩
    · rcases List.mem_cons.1 hk with e | e
      · subst e; exact g1
      · exact h1 k e
    · rcases List.mem_cons.1 hk with e | e
      · subst e; exact g2
      · exact h2 k e
theorem fits_cond {y : PV} (h : Fits (.st [.sl 35 brPl]) y) : ∃ c : List Br, y = condPV c ∧ lenOk c ∧ ∀ b ∈ c, brIn b := by
  cases h with
  | stc h1 t1 =>
    cases t1
    cases h1 with
    | sl hk hkl =>
      obtain ⟨c, rfl, g1, g2⟩ := fits_brs hk
      simp only [List.length_map] at hkl
      exact ⟨c, rfl, ⟨by omega, g2⟩, g1⟩
theorem condBack : Rows.CondBackCardSaid := CondBack.card fun y hy => by
  obtain ⟨c, rfl, h1, h2⟩ := fits_cond hy
  exact condBack_calls c h1 h2

end Go.Proofs.YtlfincjibiihaaaDoor
end
