/- Part 6 of the proof of CondBack: the framework of abstract values and the walks over the functions that the law reaches. -/
import Derived.Test.YtlfincjibiihaaaDoorCondBack5
section
namespace Go.Proofs.YtlfincjibiihaaaDoor
open Go Go.Av Go.Proofs
set_option linter.unusedVariables false
set_option linter.unusedSimpArgs false
set_option linter.unusedSectionVars false
def zeros : List Int := List.replicate 32 0
/-- The number of the error, if what is shown does not open a branch. -/
def opensN (c : List Br) (i : Int) (s : Sn) (sumF : List Int → List Int) : Int :=
  if condOk c = false then 1 else if i < 0 ∨ (c.length : Int) ≤ i then 4 else if missAt (ix c i.toNat).keys s ≥ 0 then 21
  else if (ix c i.toNat).lock ≠ zeros ∧ (ix c i.toNat).lock ≠ sumF s.secret then 22 else if s.height < (ix c i.toNat).after ∨ s.age < (ix c i.toNat).older then 23 else 0
theorem check_bad (c : List Br) (hc : brsOk c) (h : condOk c = false) : ACalls Tryd.prog 14 [.p (condPV c)] [] (.p (.v (.iface 93 (.int .i64 1)))) [] := by
  have := check_calls c hc
  rw [h] at this
  exact this
theorem check_ok (c : List Br) (hc : brsOk c) (h : condOk c = true) : ACalls Tryd.prog 14 [.p (condPV c)] [] (.p (.v .nilIface)) [] := by
  have := check_calls c hc
  rw [h] at this
  exact this
theorem containsMissing_at (t : Nat) (l : List Int) (s : Sn) (hl : l.length < 1000000) (hs : s.signed.length < 1000000) : ACalls Tryd.prog 42 [.p (.sl 1 (l.map I)), .fn (.func 40) [.ptr t []]] [(t, .row 41 (.p (seenPV s)))] (.p (.v (.bool (decide (missAt l s ≥ 0))))) [(t, .row 41 (.p (seenPV s)))] := by
  have := (containsMissing_calls l s hl hs).swap 1000 t
  simpa only [List.map_cons, List.map_nil, AV.ren, AV.renL, renH, AObj.ren, swp, if_true] using this
theorem hashTy : RowTy Tryd.prog 73 5 32 .u8 := ⟨ar73, ik5, ld5⟩

set_option maxRecDepth 100000 in
set_option maxHeartbeats 2000000 in
theorem opens_bad (c : List Br) (i : Int) (s : Sn) (sumF : List Int → List Int) (hc : brsOk c) (h : condOk c = false) : ACalls Tryd.prog 16 [.p (condPV c), .p (.v (.int .i64 i)), .p (seenPV s)] [] (.p (.v (errV (opensN c i s sumF)))) [] := by
  refine acalls_of (fn := Tryd.f16) Tryd.func16 rfl (by decide) (n := 65) rfl (by simp) (by simp) (by simp [idsOf]) (by simp [idsOf]) ?_
  simp only [argT]
  refine aw_reg rfl fun Khk1 hk1 => ?_
  simp only [go_sem, condPV]
  refine hk1 _ ?_
  refine aw_seq fun Khk2 hk2 => ?_
  refine aw_reg rfl fun Khk3 hk3 => ?_
  simp only [go_sem, condPV]
  refine bcall0 (check_bad c hc h) (by simp only [go_sem, condPV]) rfl (by simp only [go_sem, condPV]) ?_
  simp only [go_sem, condPV]
  refine hk3 _ ?_
  refine aw_reg rfl fun Khk4 hk4 => ?_
  simp only [go_sem, condPV]
  refine hk4 _ ?_
  refine aw_cond rfl (fun cc5 => ?_) (fun cc5 => ?_)
  · refine aw_reg rfl fun Khk6 hk6 => ?_
    simp only [go_sem, condPV]
    refine hk6 _ ?_
    refine aw_ret ?_
    refine ret_tmp ?_ trivial
    simp only [go_sem, condPV]
    have e : opensN c i s sumF = 1 := by
      simp [opensN, *]
    rw [e]
    simp [errV, AV.le]
  · cases cc5

set_option maxRecDepth 100000 in
set_option maxHeartbeats 2000000 in
theorem opens_ok (c : List Br) (i : Int) (s : Sn) (sumF : List Int → List Int) (hc : brsOk c) (hs : s.signed.length < 1000000) (h : condOk c = true) (hL : (∃ b ∈ c, b.lock ≠ zeros) → ACalls Tryd.prog 43 [.p (.sl 1 (s.secret.map B))] [] (.p (.ints .u8 32 (sumF s.secret))) []) : ACalls Tryd.prog 16 [.p (condPV c), .p (.v (.int .i64 i)), .p (seenPV s)] [] (.p (.v (errV (opensN c i s sumF)))) [] := by
  refine acalls_of (fn := Tryd.f16) Tryd.func16 rfl (by decide) (n := 65) rfl (by simp) (by simp) (by simp [idsOf]) (by simp [idsOf]) ?_
  simp only [argT]
  refine aw_reg rfl fun Khk1 hk1 => ?_
  simp only [go_sem, condPV, seenPV, brPV]
  refine hk1 _ ?_
  refine aw_seq fun Khk2 hk2 => ?_
  refine aw_reg rfl fun Khk3 hk3 => ?_
  simp only [go_sem, condPV, seenPV, brPV]
  refine bcall0 (check_ok c hc h) (by simp only [go_sem, condPV, seenPV, brPV]) rfl (by simp only [go_sem, condPV, seenPV, brPV]) ?_
  simp only [go_sem, condPV, seenPV, brPV]
  refine hk3 _ ?_
  refine aw_reg rfl fun Khk4 hk4 => ?_
  simp only [go_sem, condPV, seenPV, brPV]
  refine hk4 _ ?_
  refine aw_cond rfl (fun cc5 => ?_) (fun cc5 => ?_)
  · cases cc5
  · refine aw_skip ?_
    refine hk2 _ ?_
    refine aw_seq fun Khk6 hk6 => ?_
    refine aw_reg rfl fun Khk7 hk7 => ?_
    simp only [go_sem, condPV, seenPV, brPV]
    refine bg_split (fun cc8 => ?_) (fun cc8 => ?_)
    · have h0 : i < 0 := by simpa using cc8
      simp only [go_sem, condPV, seenPV, brPV, cc8]
      refine hk7 _ ?_
      refine aw_cond (b := true) (by simp only [go_sem, condPV, seenPV, brPV, cc8]) (fun _ => ?_) (fun h => by cases h)
      have h1 : i < 0 ∨ (c.length : Int) ≤ i := by simp at *; omega
      refine aw_reg rfl fun Khk9 hk9 => ?_
      simp only [go_sem, condPV, seenPV, brPV]
      refine hk9 _ ?_
      refine aw_ret ?_
      refine ret_tmp ?_ trivial
      simp only [go_sem, condPV, seenPV, brPV]
      have e : opensN c i s sumF = 4 := by
        rw [opensN, if_neg (by simp [h]), if_pos (.inl h0)]
      rw [e]
      simp [errV, AV.le]
    · have h0 : 0 ≤ i := by simp at cc8; omega
      simp only [go_sem, condPV, seenPV, brPV, cc8]
      refine hk7 _ ?_
      refine aw_cond rfl (fun cc10 => ?_) (fun cc10 => ?_)
      · have h1 : i < 0 ∨ (c.length : Int) ≤ i := by simp at *; omega
        refine aw_reg rfl fun Khk11 hk11 => ?_
        simp only [go_sem, condPV, seenPV, brPV]
        refine hk11 _ ?_
        refine aw_ret ?_
        refine ret_tmp ?_ trivial
        simp only [go_sem, condPV, seenPV, brPV]
        have e : opensN c i s sumF = 4 := by
          rw [opensN, if_neg (by simp [h]), if_pos h1]
        rw [e]
        simp [errV, AV.le]
      · have h1 : i < c.length := by simp at cc10; omega
        obtain ⟨k, rfl⟩ : ∃ k : Nat, i = k := ⟨i.toNat, by omega⟩
        have hk : k < c.length := by omega
        have hop : opensN c k s sumF = if missAt (ix c k).keys s ≥ 0 then 21 else if (ix c k).lock ≠ zeros ∧ (ix c k).lock ≠ sumF s.secret then 22 else if s.height < (ix c k).after ∨ s.age < (ix c k).older then 23 else 0 := by
          rw [opensN, if_neg (by simp [h]), if_neg (by omega), Int.toNat_natCast]
        refine aw_skip ?_
        refine hk6 _ ?_
        refine aw_reg rfl fun Khk12 hk12 => ?_
        simp only [go_sem, condPV, seenPV, brPV, hk, ix_map]
        refine hk12 _ ?_
        refine aw_reg rfl fun Khk13 hk13 => ?_
        simp only [go_sem, condPV, seenPV, brPV, hk, ix_map]
        refine ⟨by rintro c rfl; exact ⟨rfl, rfl⟩, ?_⟩
        refine hk13 _ ?_
        refine aw_seq fun Khk14 hk14 => ?_
        refine aw_block ?_
        refine aw_reg rfl fun Khk15 hk15 => ?_
        simp only [go_sem, condPV, seenPV, brPV, hk, ix_map]
        refine bcall (containsMissing_at 5 (ix c k).keys s (brsOk_ix hc hk) hs) (by simp only [go_sem, condPV, seenPV, brPV, hk, ix_map]) (by simp [idsOk, allDead, idsOf, refsIn, AV.refs, AV.refsL, seenPV, brPV, condPV]) (by simp only [go_sem, seenPV, brPV, condPV]) (by simp only [go_sem, condPV, seenPV, brPV, hk, ix_map]) (by simp only [go_sem, condPV, seenPV, brPV, hk, ix_map]) ?_
        simp only [go_sem, condPV, seenPV, brPV, hk, ix_map]
        refine hk15 _ ?_
        refine aw_cond rfl (fun cc16 => ?_) (fun cc16 => ?_)
        · have h2 : missAt (ix c k).keys s ≥ 0 := by simpa using cc16
          refine aw_reg rfl fun Khk17 hk17 => ?_
          simp only [go_sem, condPV, seenPV, brPV, hk, ix_map]
          refine hk17 _ ?_
          refine aw_ret ?_
          refine ret_tmp ?_ trivial
          simp only [go_sem, condPV, seenPV, brPV, hk, ix_map]
          have e : opensN c k s sumF = 21 := by
            rw [hop, if_pos h2]
          rw [e]
          simp [errV, AV.le]
        · have h2 : ¬ missAt (ix c k).keys s ≥ 0 := by simpa using cc16
          rw [if_neg h2] at hop
          refine aw_draw _ (by kernel_rfl) rfl rfl fun Jhk18 hk18 => ?_
          simp only [go_sem, condPV, seenPV, brPV, hk, ix_map]
          refine ctree (binRun_neq_ints hashTy _ _ (ix c k).lock zeros) (by simp only [go_sem, condPV, seenPV, brPV, hk, ix_map]) ?_
          simp only [go_sem, condPV, seenPV, brPV, hk, ix_map]
          refine cg_split (fun cc19 => ?_) (fun cc19 => ?_)
          · have hz : (ix c k).lock ≠ zeros := by simpa using cc19
            simp only [go_sem, condPV, seenPV, brPV, hk, ix_map, cc19]
            refine ccall0 (hL ⟨ix c k, by rw [ix_get hk]; exact List.getElem_mem hk, hz⟩) (by simp only [go_sem, condPV, seenPV, brPV, hk, ix_map, cc19]) rfl (by simp only [go_sem, condPV, seenPV, brPV, hk, ix_map, cc19]) ?_
            simp only [go_sem, condPV, seenPV, brPV, hk, ix_map, cc19]
            refine ctree (binRun_neq_ints hashTy _ _ (ix c k).lock (sumF s.secret)) (by simp only [go_sem, condPV, seenPV, brPV, hk, ix_map, cc19]) ?_
            simp only [go_sem, condPV, seenPV, brPV, hk, ix_map, cc19]
            refine hk18 _ _ _ ⟨by kernel_rfl, by first | exact trivial | (simp only [go_sem, condPV, seenPV, brPV, hk, ix_map, cc19])⟩ ?_
            refine aw_cond rfl (fun cc20 => ?_) (fun cc20 => ?_)
            · have h3 : (ix c k).lock ≠ sumF s.secret := by simpa using cc20
              refine aw_reg rfl fun Khk21 hk21 => ?_
              simp only [go_sem, condPV, seenPV, brPV, hk, ix_map]
              refine hk21 _ ?_
              refine aw_ret ?_
              refine ret_tmp ?_ trivial
              simp only [go_sem, condPV, seenPV, brPV, hk, ix_map]
              have e : opensN c k s sumF = 22 := by
                rw [hop, if_pos ⟨hz, h3⟩]
              rw [e]
              simp [errV, AV.le]
            · have h3 : (ix c k).lock = sumF s.secret := by simpa using cc20
              rw [if_neg (fun h => h.2 h3)] at hop
              refine aw_reg rfl fun Khk22 hk22 => ?_
              simp only [go_sem, condPV, seenPV, brPV, hk, ix_map]
              refine bg_split (fun cc23 => ?_) (fun cc23 => ?_)
              · have h4 : s.height < (ix c k).after := by simpa using cc23
                simp only [go_sem, condPV, seenPV, brPV, hk, ix_map, cc23]
                refine hk22 _ ?_
                refine aw_cond (b := true) (by simp only [go_sem, condPV, seenPV, brPV, hk, ix_map, cc23]) (fun _ => ?_) (fun h => by cases h)
                refine aw_reg rfl fun Khk24 hk24 => ?_
                simp only [go_sem, condPV, seenPV, brPV, hk, ix_map]
                refine hk24 _ ?_
                refine aw_ret ?_
                refine ret_tmp ?_ trivial
                simp only [go_sem, condPV, seenPV, brPV, hk, ix_map]
                have e : opensN c k s sumF = 23 := by
                  rw [hop, if_pos (.inl h4)]
                rw [e]
                simp [errV, AV.le]
              · have h4 : ¬ s.height < (ix c k).after := by simpa using cc23
                simp only [go_sem, condPV, seenPV, brPV, hk, ix_map, cc23]
                refine hk22 _ ?_
                refine aw_cond rfl (fun cc25 => ?_) (fun cc25 => ?_)
                · have h5 : s.age < (ix c k).older := by simpa using cc25
                  refine aw_reg rfl fun Khk26 hk26 => ?_
                  simp only [go_sem, condPV, seenPV, brPV, hk, ix_map]
                  refine hk26 _ ?_
                  refine aw_ret ?_
                  refine ret_tmp ?_ trivial
                  simp only [go_sem, condPV, seenPV, brPV, hk, ix_map]
                  have e : opensN c k s sumF = 23 := by
                    rw [hop, if_pos (.inr h5)]
                  rw [e]
                  simp [errV, AV.le]
                · have h5 : ¬ s.age < (ix c k).older := by simpa using cc25
                  refine aw_skip ?_
                  refine hk14 _ ?_
                  refine aw_reg rfl fun Khk27 hk27 => ?_
                  simp only [go_sem, condPV, seenPV, brPV, hk, ix_map]
                  refine hk27 _ ?_
                  refine aw_ret ?_
                  refine ret_tmp ?_ trivial
                  simp only [go_sem, condPV, seenPV, brPV, hk, ix_map]
                  have e : opensN c k s sumF = 0 := by
                    rw [hop, if_neg (by rintro (h | h); exact h4 h; exact h5 h)]
                  rw [e]
                  simp [errV, AV.le]
          · have hz : (ix c k).lock = zeros := by simpa using cc19
            rw [if_neg (fun h => h.1 hz)] at hop
            simp only [go_sem, condPV, seenPV, brPV, hk, ix_map, cc19]
            refine hk18 _ _ _ ⟨by kernel_rfl, by first | exact trivial | (simp only [go_sem, condPV, seenPV, brPV, hk, ix_map, cc19])⟩ ?_
            refine aw_cond (b := false) (by simp only [go_sem, condPV, seenPV, brPV, hk, ix_map, cc19]) (fun h => by cases h) (fun _ => ?_)
            refine aw_reg rfl fun Khk28 hk28 => ?_
            simp only [go_sem, condPV, seenPV, brPV, hk, ix_map]
            refine bg_split (fun cc29 => ?_) (fun cc29 => ?_)
            · have h4 : s.height < (ix c k).after := by simpa using cc29
              simp only [go_sem, condPV, seenPV, brPV, hk, ix_map, cc29]
              refine hk28 _ ?_
              refine aw_cond (b := true) (by simp only [go_sem, condPV, seenPV, brPV, hk, ix_map, cc29]) (fun _ => ?_) (fun h => by cases h)
              refine aw_reg rfl fun Khk30 hk30 => ?_
              simp only [go_sem, condPV, seenPV, brPV, hk, ix_map]
              refine hk30 _ ?_
              refine aw_ret ?_
              refine ret_tmp ?_ trivial
              simp only [go_sem, condPV, seenPV, brPV, hk, ix_map]
              have e : opensN c k s sumF = 23 := by
                rw [hop, if_pos (.inl h4)]
              rw [e]
              simp [errV, AV.le]
            · have h4 : ¬ s.height < (ix c k).after := by simpa using cc29
              simp only [go_sem, condPV, seenPV, brPV, hk, ix_map, cc29]
              refine hk28 _ ?_
              refine aw_cond rfl (fun cc31 => ?_) (fun cc31 => ?_)
              · have h5 : s.age < (ix c k).older := by simpa using cc31
                refine aw_reg rfl fun Khk32 hk32 => ?_
                simp only [go_sem, condPV, seenPV, brPV, hk, ix_map]
                refine hk32 _ ?_
                refine aw_ret ?_
                refine ret_tmp ?_ trivial
                simp only [go_sem, condPV, seenPV, brPV, hk, ix_map]
                have e : opensN c k s sumF = 23 := by
                  rw [hop, if_pos (.inr h5)]
                rw [e]
                simp [errV, AV.le]
              · have h5 : ¬ s.age < (ix c k).older := by simpa using cc31
                refine aw_skip ?_
                refine hk14 _ ?_
                refine aw_reg rfl fun Khk33 hk33 => ?_
                simp only [go_sem, condPV, seenPV, brPV, hk, ix_map]
                refine hk33 _ ?_
                refine aw_ret ?_
                refine ret_tmp ?_ trivial
                simp only [go_sem, condPV, seenPV, brPV, hk, ix_map]
                have e : opensN c k s sumF = 0 := by
                  rw [hop, if_neg (by rintro (h | h); exact h4 h; exact h5 h)]
                rw [e]
                simp [errV, AV.le]

theorem opens_calls (c : List Br) (i : Int) (s : Sn) (sumF : List Int → List Int) (hc : brsOk c) (hs : s.signed.length < 1000000) (hL : (∃ b ∈ c, b.lock ≠ zeros) → ACalls Tryd.prog 43 [.p (.sl 1 (s.secret.map B))] [] (.p (.ints .u8 32 (sumF s.secret))) []) :
    ACalls Tryd.prog 16 [.p (condPV c), .p (.v (.int .i64 i)), .p (seenPV s)] [] (.p (.v (errV (opensN c i s sumF)))) [] := by
  cases h : condOk c with
  | false => exact opens_bad c i s sumF hc h
  | true => exact opens_ok c i s sumF hc hs h hL

end Go.Proofs.YtlfincjibiihaaaDoor
end

section
namespace Go.Proofs.YtlfincjibiihaaaDoor
open Go Go.Av Go.Proofs
set_option linter.unusedVariables false
set_option linter.unusedSimpArgs false
set_option linter.unusedSectionVars false
theorem refAll_calls (l : List Int) (hl : l.length < 1000000) : ACalls Tryd.prog 20 [.p (.sl 1 (l.map I))] [] (.p (condPV [allBr l])) [] := by
  have := refAll_loop l hl
  rw [insN_dedup] at this
  exact this
theorem dedup21 : dedupI (sortI [2, 1]) = [1, 2] := by rw [← insN_dedup]; decide
def brs12 : List Br := [⟨[1, 2], List.replicate 32 0, 0, 0⟩]
theorem brsOk_one : brsOk brs12 := ⟨by simp [brs12], fun b hb => by simp [brs12] at hb; subst hb; simp⟩
theorem all21 : ACalls Tryd.prog 17 [.p (.sl 1 [I 2, I 1])] [] (.p (condPV brs12)) [] := by
  have := all_calls [2, 1] (by simp)
  rw [allBr, dedup21] at this
  exact this
theorem opens12 : ACalls Tryd.prog 16 [.p (condPV brs12), .p (.v (.int .i64 0)), .p (seenPV ⟨[1, 2], [], 0, 0⟩)] [] (.p (.v .nilIface)) [] := by
  have := opens_calls brs12 0 ⟨[1, 2], [], 0, 0⟩ id brsOk_one (by simp) (by rintro ⟨b, hb, h⟩; simp [brs12] at hb; subst hb; exact absurd rfl h)
  exact this
theorem opens1 : ACalls Tryd.prog 16 [.p (condPV brs12), .p (.v (.int .i64 0)), .p (seenPV ⟨[1], [], 0, 0⟩)] [] (.p (.v (errV 21))) [] := by
  have := opens_calls brs12 0 ⟨[1], [], 0, 0⟩ id brsOk_one (by simp) (by rintro ⟨b, hb, h⟩; simp [brs12] at hb; subst hb; exact absurd rfl h)
  exact this
theorem le_seen {a x y : PV} : AV.le (.p (.st [a, .v (.slice none 0 0), x, y])) (.p (.st [a, .sl 1 [], x, y])) = True :=
  eq_true (.inr (.inr (.inr (.inr ⟨.st [a, .v (.slice none 0 0), x, y], .st [a, .sl 1 [], x, y], rfl, .st rfl fun i f g hf hg => by
    match i, hf, hg with
    | 0, hf, hg => cases hf; cases hg; exact .refl _
    | 1, hf, hg => cases hf; cases hg; exact .nil _
    | 2, hf, hg => cases hf; cases hg; exact .refl _
    | 3, hf, hg => cases hf; cases hg; exact .refl _
    | _ + 4, hf, _ => simp at hf, rfl⟩))))

set_option maxRecDepth 100000 in
set_option maxHeartbeats 2000000 in
theorem sure_calls  : ACalls Tryd.prog 11 [] [] (.p (.v (.bool true))) [] := by
  refine acalls_of (fn := Tryd.f11) Tryd.func11 rfl (by decide) (n := 32) rfl (by simp) (by simp) (by simp [idsOf]) (by simp [idsOf]) ?_
  simp only [argT]
  refine aw_reg rfl fun Khk1 hk1 => ?_
  simp only [go_sem, List.length_cons, List.length_nil, Nat.zero_add, Int.natCast_one, decide_true, condPV, brPV, seenPV, brs12, List.map_cons, List.map_nil, I, le_seen]
  refine hk1 _ ?_
  refine aw_reg rfl fun Khk2 hk2 => ?_
  simp only [go_sem, List.length_cons, List.length_nil, Nat.zero_add, Int.natCast_one, decide_true, condPV, brPV, seenPV, brs12, List.map_cons, List.map_nil, I, le_seen]
  refine bcall0 (all21) (by simp only [go_sem, List.length_cons, List.length_nil, Nat.zero_add, Int.natCast_one, decide_true, condPV, brPV, seenPV, brs12, List.map_cons, List.map_nil, I, le_seen]) rfl (by simp only [go_sem, List.length_cons, List.length_nil, Nat.zero_add, Int.natCast_one, decide_true, condPV, brPV, seenPV, brs12, List.map_cons, List.map_nil, I, le_seen]) ?_
  simp only [go_sem, List.length_cons, List.length_nil, Nat.zero_add, Int.natCast_one, decide_true, condPV, brPV, seenPV, brs12, List.map_cons, List.map_nil, I, le_seen]
  refine hk2 _ ?_
  refine aw_reg rfl fun Khk3 hk3 => ?_
  simp only [go_sem, List.length_cons, List.length_nil, Nat.zero_add, Int.natCast_one, decide_true, condPV, brPV, seenPV, brs12, List.map_cons, List.map_nil, I, le_seen]
  refine bcall0 (opens12) (by simp only [go_sem, List.length_cons, List.length_nil, Nat.zero_add, Int.natCast_one, decide_true, condPV, brPV, seenPV, brs12, List.map_cons, List.map_nil, I, le_seen]) rfl (by simp only [go_sem, List.length_cons, List.length_nil, Nat.zero_add, Int.natCast_one, decide_true, condPV, brPV, seenPV, brs12, List.map_cons, List.map_nil, I, le_seen]) ?_
  simp only [go_sem, List.length_cons, List.length_nil, Nat.zero_add, Int.natCast_one, decide_true, condPV, brPV, seenPV, brs12, List.map_cons, List.map_nil, I, le_seen]
  refine bcall0 (opens1) (by simp only [go_sem, List.length_cons, List.length_nil, Nat.zero_add, Int.natCast_one, decide_true, condPV, brPV, seenPV, brs12, List.map_cons, List.map_nil, I, le_seen]) rfl (by simp only [go_sem, List.length_cons, List.length_nil, Nat.zero_add, Int.natCast_one, decide_true, condPV, brPV, seenPV, brs12, List.map_cons, List.map_nil, I, le_seen]) ?_
  simp only [go_sem, List.length_cons, List.length_nil, Nat.zero_add, Int.natCast_one, decide_true, condPV, brPV, seenPV, brs12, List.map_cons, List.map_nil, I, le_seen]
  refine bcall0 (num_calls 21) (by simp only [go_sem, List.length_cons, List.length_nil, Nat.zero_add, Int.natCast_one, decide_true, condPV, brPV, seenPV, brs12, List.map_cons, List.map_nil, I, le_seen]) rfl (by simp only [go_sem, List.length_cons, List.length_nil, Nat.zero_add, Int.natCast_one, decide_true, condPV, brPV, seenPV, brs12, List.map_cons, List.map_nil, I, le_seen]) ?_
  simp only [go_sem, List.length_cons, List.length_nil, Nat.zero_add, Int.natCast_one, decide_true, condPV, brPV, seenPV, brs12, List.map_cons, List.map_nil, I, le_seen]
  refine bcall0 (ints_calls [1, 2] [1, 2] (by simp)) (by simp only [go_sem, List.length_cons, List.length_nil, Nat.zero_add, Int.natCast_one, decide_true, condPV, brPV, seenPV, brs12, List.map_cons, List.map_nil, I, le_seen]) rfl (by simp only [go_sem, List.length_cons, List.length_nil, Nat.zero_add, Int.natCast_one, decide_true, condPV, brPV, seenPV, brs12, List.map_cons, List.map_nil, I, le_seen]) ?_
  simp only [go_sem, List.length_cons, List.length_nil, Nat.zero_add, Int.natCast_one, decide_true, condPV, brPV, seenPV, brs12, List.map_cons, List.map_nil, I, le_seen]
  refine hk3 _ ?_
  refine aw_ret ?_
  refine ret_tmp ?_ trivial
  simp only [go_sem, List.length_cons, List.length_nil, Nat.zero_add, Int.natCast_one, decide_true, condPV, brPV, seenPV, brs12, List.map_cons, List.map_nil, I, le_seen]

end Go.Proofs.YtlfincjibiihaaaDoor
end

section
namespace Go.Proofs.YtlfincjibiihaaaDoor
open Go Go.Av Go.Proofs
set_option linter.unusedVariables false
set_option linter.unusedSimpArgs false
set_option linter.unusedSectionVars false
theorem rng_uint (x : Int) : ∀ n ∈ uintB x, 0 ≤ n ∧ n < 256 := fun n hn => by
  have := wid_le x
  rcases List.mem_cons.1 hn with e | e
  · subst e; omega
  · unfold dgs at e
    obtain ⟨k, _, e⟩ := List.mem_map.1 e
    subst e
    unfold byteAt
    omega
def bRng (b : Br) : Prop := ∀ n ∈ b.lock, 0 ≤ n ∧ n < 256
theorem rng_br {b : Br} (h : bRng b) : ∀ n ∈ brB b, 0 ≤ n ∧ n < 256 := fun n hn => by
  simp only [brB, List.mem_append, or_assoc, keysB, List.mem_flatMap] at hn
  rcases hn with e | ⟨k, _, e⟩ | e | e | e
  · exact rng_uint _ n e
  · exact rng_uint _ n e
  · exact h n e
  · exact rng_uint _ n e
  · exact rng_uint _ n e
theorem rng_put {c : List Br} (h : ∀ b ∈ c, bRng b) : ∀ n ∈ putB c, 0 ≤ n ∧ n < 256 := fun n hn => by
  simp only [putB, condB, List.mem_append, List.mem_flatMap, List.take_length] at hn
  rcases hn with e | ⟨b, hb, e⟩
  · exact rng_uint _ n e
  · exact rng_br (h b hb) n e
theorem dedup_len (l : List Int) : (dedupI (sortI l)).length ≤ l.length := by
  rw [← insN_dedup]
  exact insN_len l l.length (Nat.le_refl _)
theorem cOk_all {l : List Int} (hl : l.length ≤ 200) : cOk [allBr l] := by
  have := dedup_len l
  refine ⟨by simp [csz, allBr]; omega, fun b hb => ?_⟩
  simp at hb
  subst hb
  simp [allBr]
theorem rng_all (l : List Int) : ∀ b ∈ [allBr l], bRng b := fun b hb => by
  simp at hb
  subst hb
  intro n hn
  simp [allBr] at hn
  omega
theorem put_str (l : List Int) : ∃ b : List UInt8, (putB [allBr l]).map B = u8s b := u8s_ex (rng_put (rng_all l))

set_option maxRecDepth 100000 in
set_option maxHeartbeats 2000000 in
theorem condAll_calls (l : List Int) : ACalls Tryd.prog 4 [.p (.sl 1 (l.map I))] [] (.p (.v (.bool true))) [] := by
  refine acalls_of (fn := Tryd.f4) Tryd.func4 rfl (by decide) (n := 30) rfl (by simp) (by simp) (by simp [idsOf]) (by simp [idsOf]) ?_
  simp only [argT]
  refine aw_reg rfl fun Khk1 hk1 => ?_
  simp only [go_sem, decide_true, beq_self_eq_true, List.nil_append, condPV, List.map_cons, List.map_nil]
  refine hk1 _ ?_
  refine aw_seq fun Khk2 hk2 => ?_
  refine aw_reg rfl fun Khk3 hk3 => ?_
  simp only [go_sem, decide_true, beq_self_eq_true, List.nil_append, condPV, List.map_cons, List.map_nil]
  refine hk3 _ ?_
  refine aw_cond rfl (fun cc4 => ?_) (fun cc4 => ?_)
  · refine aw_reg rfl fun Khk5 hk5 => ?_
    simp only [go_sem, decide_true, beq_self_eq_true, List.nil_append, condPV, List.map_cons, List.map_nil]
    refine bcall0 (sure_calls) (by simp only [go_sem, decide_true, beq_self_eq_true, List.nil_append, condPV, List.map_cons, List.map_nil]) rfl (by simp only [go_sem, decide_true, beq_self_eq_true, List.nil_append, condPV, List.map_cons, List.map_nil]) ?_
    simp only [go_sem, decide_true, beq_self_eq_true, List.nil_append, condPV, List.map_cons, List.map_nil]
    refine hk5 _ ?_
    refine aw_ret ?_
    refine ret_tmp ?_ trivial
    simp only [go_sem, decide_true, beq_self_eq_true, List.nil_append, condPV, List.map_cons, List.map_nil]
  · have h2 : l.length ≤ 200 := by simp at cc4; omega
    have hcok := cOk_all h2
    obtain ⟨bb, hbb⟩ := put_str l
    refine aw_skip ?_
    refine hk2 _ ?_
    refine aw_reg rfl fun Khk6 hk6 => ?_
    simp only [go_sem, decide_true, beq_self_eq_true, List.nil_append, condPV, List.map_cons, List.map_nil]
    refine hk6 _ ?_
    refine aw_reg rfl fun Khk7 hk7 => ?_
    simp only [go_sem, decide_true, beq_self_eq_true, List.nil_append, condPV, List.map_cons, List.map_nil]
    refine ⟨by omega, ?_⟩
    refine hk7 _ ?_
    refine aw_reg rfl fun Khk8 hk8 => ?_
    simp only [go_sem, decide_true, beq_self_eq_true, List.nil_append, condPV, List.map_cons, List.map_nil]
    refine bcall0 (all_calls l (by omega)) (by simp only [go_sem, decide_true, beq_self_eq_true, List.nil_append, condPV, List.map_cons, List.map_nil]) rfl (by simp only [go_sem, decide_true, beq_self_eq_true, List.nil_append, condPV, List.map_cons, List.map_nil]) ?_
    simp only [go_sem, decide_true, beq_self_eq_true, List.nil_append, condPV, List.map_cons, List.map_nil]
    refine hk8 _ ?_
    refine aw_draw _ (by kernel_rfl) rfl rfl fun Jhk9 hk9 => ?_
    simp only [go_sem, decide_true, beq_self_eq_true, List.nil_append, condPV, List.map_cons, List.map_nil]
    refine ccall0 (put_calls [] [allBr l] (by simp) hcok) (by simp only [go_sem, decide_true, beq_self_eq_true, List.nil_append, condPV, List.map_cons, List.map_nil]) rfl (by simp only [go_sem, decide_true, beq_self_eq_true, List.nil_append, condPV, List.map_cons, List.map_nil]) ?_
    simp only [go_sem, decide_true, beq_self_eq_true, List.nil_append, condPV, List.map_cons, List.map_nil]
    refine ccust (cust_str (l := bb) (xs := (putB [allBr l]).map B) (by simp only [go_sem, decide_true, beq_self_eq_true, List.nil_append, condPV, List.map_cons, List.map_nil]) hbb isStr9 el26 ik5) (by simp only [go_sem, decide_true, beq_self_eq_true, List.nil_append, condPV, List.map_cons, List.map_nil]) (by simp only [go_sem, decide_true, beq_self_eq_true, List.nil_append, condPV, List.map_cons, List.map_nil]) ?_
    simp only [go_sem, decide_true, beq_self_eq_true, List.nil_append, condPV, List.map_cons, List.map_nil]
    refine ccall0 (refAll_calls l (by omega)) (by simp only [go_sem, decide_true, beq_self_eq_true, List.nil_append, condPV, List.map_cons, List.map_nil]) rfl (by simp only [go_sem, decide_true, beq_self_eq_true, List.nil_append, condPV, List.map_cons, List.map_nil]) ?_
    simp only [go_sem, decide_true, beq_self_eq_true, List.nil_append, condPV, List.map_cons, List.map_nil]
    refine ccall0 (refPut_calls [] [allBr l] (by simp) hcok) (by simp only [go_sem, decide_true, beq_self_eq_true, List.nil_append, condPV, List.map_cons, List.map_nil]) rfl (by simp only [go_sem, decide_true, beq_self_eq_true, List.nil_append, condPV, List.map_cons, List.map_nil]) ?_
    simp only [go_sem, decide_true, beq_self_eq_true, List.nil_append, condPV, List.map_cons, List.map_nil]
    refine ccust (cust_str (l := bb) (xs := (putB [allBr l]).map B) (by simp only [go_sem, decide_true, beq_self_eq_true, List.nil_append, condPV, List.map_cons, List.map_nil]) hbb isStr9 el26 ik5) (by simp only [go_sem, decide_true, beq_self_eq_true, List.nil_append, condPV, List.map_cons, List.map_nil]) (by simp only [go_sem, decide_true, beq_self_eq_true, List.nil_append, condPV, List.map_cons, List.map_nil]) ?_
    simp only [go_sem, decide_true, beq_self_eq_true, List.nil_append, condPV, List.map_cons, List.map_nil]
    refine ccall0 (ints_calls l l (by omega)) (by simp only [go_sem, decide_true, beq_self_eq_true, List.nil_append, condPV, List.map_cons, List.map_nil]) rfl (by simp only [go_sem, decide_true, beq_self_eq_true, List.nil_append, condPV, List.map_cons, List.map_nil]) ?_
    simp only [go_sem, decide_true, beq_self_eq_true, List.nil_append, condPV, List.map_cons, List.map_nil]
    refine ccall0 (sure_calls) (by simp only [go_sem, decide_true, beq_self_eq_true, List.nil_append, condPV, List.map_cons, List.map_nil]) rfl (by simp only [go_sem, decide_true, beq_self_eq_true, List.nil_append, condPV, List.map_cons, List.map_nil]) ?_
    simp only [go_sem, decide_true, beq_self_eq_true, List.nil_append, condPV, List.map_cons, List.map_nil]
    refine hk9 _ _ _ ⟨by kernel_rfl, by first | exact trivial | (simp only [go_sem, decide_true, beq_self_eq_true, List.nil_append, condPV, List.map_cons, List.map_nil])⟩ ?_
    refine aw_ret ?_
    refine ret_tmp ?_ trivial
    simp only [go_sem, decide_true, beq_self_eq_true, List.nil_append, condPV, List.map_cons, List.map_nil]

end Go.Proofs.YtlfincjibiihaaaDoor
end

section
namespace Go.Proofs.YtlfincjibiihaaaDoor
open Go Go.Av Go.Proofs
set_option linter.unusedVariables false
set_option linter.unusedSimpArgs false
set_option linter.unusedSectionVars false
/-- How much a condition has. -/
def longA (c : List Br) (i : Nat) : Nat := c.length + ((c.take i).map fun b => b.keys.length).sum
def longB (c : List Br) : Bool := decide (300 < longA c (min c.length 300))
theorem longA_0 (c : List Br) : longA c 0 = c.length := by simp [longA]
theorem longA_succ {c : List Br} {i : Nat} (h : i < c.length) : longA c (i + 1) = longA c i + (ix c i).keys.length := by
  simp only [longA, List.take_succ_eq_append_getElem h, List.map_append, List.sum_append, List.map_cons, List.map_nil, List.sum_cons, List.sum_nil, ix_get h]
  omega
def lenOk (c : List Br) : Prop := c.length ≤ 1000000000000000 ∧ ∀ b ∈ c, b.keys.length ≤ 1000000000000000
theorem longA_le {c : List Br} (h : lenOk c) : ∀ i, i ≤ c.length → longA c i ≤ 1000000000000000 * (i + 1)
  | 0, _ => by rw [longA_0]; have := h.1; omega
  | i + 1, hi => by
    have := longA_le h i (by omega)
    rw [longA_succ hi]
    have := h.2 (ix c i) (by rw [ix_get hi]; exact List.getElem_mem hi)
    omega
theorem longA_mono {c : List Br} : ∀ i, c.length ≤ longA c i := fun i => by simp [longA]
theorem csz_sum (c : List Br) : csz c = c.length + (c.map fun b => b.keys.length).sum := by
  unfold csz
  induction c with
  | nil => rfl
  | cons a c ih =>
    rw [List.map_cons, List.sum_cons, ih, List.map_cons, List.sum_cons, List.length_cons]
    omega
theorem long_not {c : List Br} (h : longB c = false) : csz c ≤ 300 := by
  have h : ¬ 300 < longA c (min c.length 300) := by simpa [longB] using h
  have := longA_mono (c := c) (min c.length 300)
  have e : min c.length 300 = c.length := by omega
  rw [e] at h
  have e2 : csz c = longA c c.length := by rw [csz_sum, longA, List.take_length]
  omega

set_option maxRecDepth 100000 in
set_option maxHeartbeats 2000000 in
theorem long_calls (c : List Br) (hc : lenOk c) : ACalls Tryd.prog 10 [.p (condPV c)] [] (.p (.v (.bool (longB c)))) [] := by
  refine acalls_of (fn := Tryd.f10) Tryd.func10 rfl (by decide) (n := 30) rfl (by simp) (by simp) (by simp [idsOf]) (by simp [idsOf]) ?_
  simp only [argT]
  refine aw_reg rfl fun Khk1 hk1 => ?_
  simp only [go_sem, condPV]
  refine hk1 _ ?_
  refine aw_reg rfl fun Khk2 hk2 => ?_
  simp only [go_sem, condPV]
  refine hk2 _ ?_
  refine aw_seq fun Khk3 hk3 => ?_
  refine aw_reg rfl fun Khk4 hk4 => ?_
  simp only [go_sem, condPV]
  refine hk4 _ ?_
  refine aw_block ?_
  refine aw_loop (α := {i : Nat // i ≤ min c.length 300})
    (fun x => ⟨30, [(4, .p (.v (.int .i64 x.1))), (3, .p (.v (.int .i64 (longA c x.1)))), (1, .ptr 1 [])], [(1, .row 24 (.p (condPV c)))]⟩)
    (fun x => c.length - x.1) ⟨0, by omega⟩ (imp_less (by simp only [go_sem, condPV]; simp only [longA_0, le_refl'])) fun ⟨i, hi⟩ => ?_
  have hle := longA_le hc i (by omega)
  refine aw_seq fun Khk5 hk5 => ?_
  refine aw_reg rfl fun Khk6 hk6 => ?_
  simp only [go_sem, condPV]
  refine bg_split (fun cc7 => ?_) (fun cc7 => ?_)
  · have hlt : i < c.length := by simpa using cc7
    simp only [go_sem, condPV, hlt, ix_map, brPV, cc7]
    refine hk6 _ ?_
    refine aw_cond rfl (fun cc8 => ?_) (fun cc8 => ?_)
    · have hl3 : i < 300 := by simp at cc8; omega
      have hk := hc.2 (ix c i) (by rw [ix_get hlt]; exact List.getElem_mem hlt)
      have ew : IntKind.wrap .i64 ((longA c i : Int) + ((ix c i).keys.length : Int)) = (longA c (i + 1) : Nat) := by rw [longA_succ hlt, wrap_i64 (by omega) (by omega)]; omega
      refine aw_skip ?_
      refine hk5 _ ?_
      refine aw_seq fun Khk9 hk9 => ?_
      refine aw_block ?_
      refine aw_reg_last rfl fun Khk10 hk10 => ?_
      simp only [go_sem, condPV, hlt, ix_map, brPV, ew]
      refine hk10 _ ?_
      refine hk9 _ ?_
      refine aw_reg_last rfl fun Khk11 hk11 => ?_
      simp only [go_sem, condPV, hlt, ix_map, brPV, ew]
      refine hk11 _ ?_
      refine ⟨⟨i + 1, by omega⟩, imp_less (by simp only [go_sem, condPV, hlt, ix_map, brPV, ew]; exact le_int (wrap_i64 (by omega) (by omega))), by simp only; omega⟩
    · have hie : i = min c.length 300 := by simp at cc8; omega
      refine aw_exit ?_
      refine hk3 _ ?_
      refine aw_reg rfl fun Khk12 hk12 => ?_
      simp only [go_sem, condPV, hlt, ix_map, brPV]
      refine hk12 _ ?_
      refine aw_ret ?_
      refine ret_tmp ?_ trivial
      simp only [go_sem, condPV, hlt, ix_map, brPV]
      exact le_bool (by subst hie; simp [longB]; omega)
  · have hie : i = min c.length 300 := by simp at cc7; omega
    simp only [go_sem, condPV, cc7]
    refine hk6 _ ?_
    refine aw_cond (b := false) (by simp only [go_sem, condPV, cc7]) (fun h => by cases h) (fun _ => ?_)
    refine aw_exit ?_
    refine hk3 _ ?_
    refine aw_reg rfl fun Khk13 hk13 => ?_
    simp only [go_sem, condPV]
    refine hk13 _ ?_
    refine aw_ret ?_
    refine ret_tmp ?_ trivial
    simp only [go_sem, condPV]
    exact le_bool (by subst hie; simp [longB]; omega)

set_option maxRecDepth 100000 in
set_option maxHeartbeats 2000000 in
theorem give_calls (c : List Br) (hc : csz c ≤ 1000) : ACalls Tryd.prog 12 [.p (condPV c)] [] (.p (condPV c)) [] := by
  refine acalls_of (fn := Tryd.f12) Tryd.func12 rfl (by decide) (n := 34) rfl (by simp) (by simp) (by simp [idsOf]) (by simp [idsOf]) ?_
  simp only [argT]
  have hcl := csz_len c
  refine aw_reg rfl fun Khk1 hk1 => ?_
  simp only [go_sem, condPV]
  refine hk1 _ ?_
  refine aw_reg rfl fun Khk2 hk2 => ?_
  simp only [go_sem, condPV]
  refine hk2 _ ?_
  refine aw_seq fun Khk3 hk3 => ?_
  refine aw_reg rfl fun Khk4 hk4 => ?_
  simp only [go_sem, condPV]
  refine hk4 _ ?_
  refine aw_block ?_
  refine aw_loop (α := {i : Nat // i ≤ c.length})
    (fun x => ⟨34, [(4, .p (.v (.int .i64 x.1))), (3, acc 31 35 x.1 ((c.take x.1).map brPV)), (2, .ptr 2 []), (1, .ptr 1 [])], accH 31 x.1 x.1 [(1, .row 24 (.p (condPV c))), (2, .row 35 (.p (.st [.v (.slice none 0 0)])))]⟩)
    (fun x => c.length - x.1) ⟨0, by omega⟩ (imp_less (by simp only [go_sem, condPV])) fun ⟨i, hi⟩ => ?_
  rcases i with _ | i
  · have hz : ((0 : Nat) : Int) = 0 := rfl
    have hlen : (c.take 0).length = 0 := by simp
    refine aw_seq fun Khk5 hk5 => ?_
    refine aw_reg rfl fun Khk6 hk6 => ?_
    simp only [go_sem, condPV, hz, hlen]
    refine hk6 _ ?_
    refine aw_cond rfl (fun cc7 => ?_) (fun cc7 => ?_)
    · have hlt : 0 < c.length := by simpa using cc7
      have hk := csz_mem (c := c) (b := ix c 0) (by rw [ix_get hlt]; exact List.getElem_mem hlt)
      refine aw_skip ?_
      refine hk5 _ ?_
      refine aw_seq fun Khk8 hk8 => ?_
      refine aw_block ?_
      refine aw_reg rfl fun Khk9 hk9 => ?_
      simp only [go_sem, condPV, hz, hlen, hlt, ix_map, brPV]
      refine hk9 _ ?_
      refine aw_reg rfl fun Khk10 hk10 => ?_
      simp only [go_sem, condPV, hz, hlen, hlt, ix_map, brPV]
      refine hk10 _ ?_
      refine aw_reg rfl fun Khk11 hk11 => ?_
      simp only [go_sem, condPV, hz, hlen, hlt, ix_map, brPV]
      refine ⟨by omega, ?_⟩
      refine hk11 _ ?_
      refine aw_reg_last rfl fun Khk12 hk12 => ?_
      simp only [go_sem, condPV, hz, hlen, hlt, ix_map, brPV]
      refine hk12 _ ?_
      refine hk8 _ ?_
      refine aw_reg_last rfl fun Khk13 hk13 => ?_
      simp only [go_sem, condPV, hz, hlen, hlt, ix_map, brPV]
      refine hk13 _ ?_
      refine ⟨⟨0 + 1, hlt⟩, imp_less (by simp only [go_sem, condPV, hz, hlen, hlt, ix_map, brPV]; exact ⟨le_int rfl, le_slt_eq (by rw [List.take_succ_eq_append_getElem hlt]; simp only [List.take_zero, List.nil_append, List.map_append, List.map_cons, List.map_nil, brPV, ix_get hlt])⟩), by simp only; omega⟩
    · have hie : c = [] := by simpa using cc7
      refine aw_exit ?_
      refine hk3 _ ?_
      refine aw_reg rfl fun Khk14 hk14 => ?_
      simp only [go_sem, condPV, hz, hlen]
      refine hk14 _ ?_
      refine aw_ret ?_
      refine ret_cell rfl rfl rfl ⟨rfl, by simp only [go_sem, condPV, hz, hlen]⟩ (by rw [hie]; exact le_nil1) (by simp only [go_sem, condPV, hz, hlen])
  · simp only [acc_s, accH_s]
    generalize hm : i + 1 = m at hi ⊢
    have hlen : (c.take m).length = m := by rw [List.length_take]; omega
    refine aw_seq fun Khk15 hk15 => ?_
    refine aw_reg rfl fun Khk16 hk16 => ?_
    simp only [go_sem, condPV, hlen]
    refine hk16 _ ?_
    refine aw_cond rfl (fun cc17 => ?_) (fun cc17 => ?_)
    · have hlt : m < c.length := by simpa using cc17
      have hk := csz_mem (c := c) (b := ix c m) (by rw [ix_get hlt]; exact List.getElem_mem hlt)
      refine aw_skip ?_
      refine hk15 _ ?_
      refine aw_seq fun Khk18 hk18 => ?_
      refine aw_block ?_
      refine aw_reg rfl fun Khk19 hk19 => ?_
      simp only [go_sem, condPV, hlen, hlt, ix_map, brPV]
      refine hk19 _ ?_
      refine aw_reg rfl fun Khk20 hk20 => ?_
      simp only [go_sem, condPV, hlen, hlt, ix_map, brPV]
      refine hk20 _ ?_
      refine aw_reg rfl fun Khk21 hk21 => ?_
      simp only [go_sem, condPV, hlen, hlt, ix_map, brPV]
      refine ⟨by omega, ?_⟩
      refine hk21 _ ?_
      refine aw_reg_last rfl fun Khk22 hk22 => ?_
      simp only [go_sem, condPV, hlen, hlt, ix_map, brPV]
      refine ⟨by omega, ?_⟩
      refine hk22 _ ?_
      refine hk18 _ ?_
      refine aw_reg_last rfl fun Khk23 hk23 => ?_
      simp only [go_sem, condPV, hlen, hlt, ix_map, brPV]
      refine hk23 _ ?_
      refine ⟨⟨m + 1, hlt⟩, imp_less (by simp only [go_sem, condPV, hlen, hlt, ix_map, brPV]; exact ⟨le_int (wrap_i64 (by omega) (by omega)), le_slt_eq (by rw [List.take_succ_eq_append_getElem hlt]; simp only [List.map_append, List.map_cons, List.map_nil, brPV, ix_get hlt])⟩), by simp only; omega⟩
    · have hie : m = c.length := by simp at cc17; omega
      subst hie
      refine aw_exit ?_
      refine hk3 _ ?_
      refine aw_reg rfl fun Khk24 hk24 => ?_
      simp only [go_sem, condPV, hlen, List.take_length]
      refine hk24 _ ?_
      refine aw_ret ?_
      refine ret_cell rfl rfl rfl ⟨rfl, by simp only [go_sem, condPV, hlen, List.take_length]⟩ ?_ (by simp only [go_sem, condPV, hlen, List.take_length])
      simp only [go_sem, condPV, hlen, List.take_length]
      exact .inr (.inl ⟨_, rfl, rfl⟩)

end Go.Proofs.YtlfincjibiihaaaDoor
end

section
namespace Go.Proofs.YtlfincjibiihaaaDoor
open Go Go.Av Go.Proofs
set_option linter.unusedVariables false
set_option linter.unusedSimpArgs false
set_option linter.unusedSectionVars false
/-- A reader: its bytes, where it is, and what its error is. -/
def rdPV (l : List Int) (at_ : Nat) (d : Value) : PV := .st [.sl 1 (l.map B), .v (.int .i64 at_), .v d]
def isB (l : List Int) : Prop := ∀ n ∈ l, 0 ≤ n ∧ n < 256
/-- The number of bytes, the highest first. -/
def valB (l : List Int) : Int := l.foldl (fun n c => n * 256 + c) 0
theorem valB_snoc (l : List Int) (c : Int) : valB (l ++ [c]) = valB l * 256 + c := by simp [valB]
theorem isB_ix {l : List Int} (h : isB l) {i : Nat} (hi : i < l.length) : 0 ≤ ix l i ∧ ix l i < 256 := by
  rw [ix_get hi]; exact h _ (List.getElem_mem hi)
theorem isB_take {l : List Int} (h : isB l) (k : Nat) : isB (l.take k) := fun n hn => h n (List.mem_of_mem_take hn)
theorem isB_drop {l : List Int} (h : isB l) (k : Nat) : isB (l.drop k) := fun n hn => h n (List.mem_of_mem_drop hn)
theorem valB_rng : ∀ {k : Nat} {l : List Int}, isB l → l.length = k → 0 ≤ valB l ∧ valB l < 256 ^ k
  | 0, l, _, hl => by
    have : l = [] := List.eq_nil_of_length_eq_zero hl
    subst this; simp [valB]
  | k + 1, l, h, hl => by
    have e : l = l.take k ++ [ix l k] := by
      have := List.take_succ_eq_append_getElem (show k < l.length by omega)
      rw [← ix_get (show k < l.length by omega), List.take_of_length_le (by omega)] at this
      exact this
    have h1 := valB_rng (k := k) (isB_take h k) (by rw [List.length_take]; omega)
    have h2 := isB_ix h (show k < l.length by omega)
    rw [e, valB_snoc, Int.pow_succ]
    omega
theorem byte_in {n c : Int} (h0 : 0 ≤ n) (h1 : n < 72057594037927936) (c0 : 0 ≤ c) (c1 : c < 256) :
    IntKind.wrap .u64 (bOr .u64 (IntKind.wrap .u64 (n * 2 ^ min 8 IntKind.u64.bits)) (IntKind.wrap .u64 (IntKind.wrap .u8 (bXor .u8 c 0 : Nat))) : Nat) = n * 256 + c := by
  obtain ⟨m, rfl⟩ : ∃ m : Nat, n = m := ⟨n.toNat, by omega⟩
  obtain ⟨b, rfl⟩ : ∃ b : Nat, c = b := ⟨c.toNat, by omega⟩
  have e1 : (m : Int) * 2 ^ min 8 IntKind.u64.bits = ((m * 256 : Nat) : Int) := by
    rw [show min 8 IntKind.u64.bits = 8 by decide]
    omega
  have e2 : (bXor .u8 (b : Int) 0 : Nat) = b := by
    show (BitVec.ofInt 8 (b : Int) ^^^ 0#8).toNat = b
    rw [BitVec.xor_zero, BitVec.toNat_ofInt]
    omega
  rw [e1, e2, wrap_u8 (by omega) (by omega), wrap_u64 (n := (b : Int)) (by omega) (by omega), wrap_u64 (n := ((m * 256 : Nat) : Int)) (by omega) (by omega)]
  have e3 : bOr .u64 ((m * 256 : Nat) : Int) (b : Int) = m * 256 + b := by
    show (BitVec.ofInt 64 ((m * 256 : Nat) : Int) ||| BitVec.ofInt 64 (b : Int)).toNat = _
    rw [BitVec.toNat_or, BitVec.toNat_ofInt, BitVec.toNat_ofInt]
    have a1 : ((((m * 256 : Nat) : Int) % ((2 ^ 64 : Nat) : Int)).toNat) = m * 256 := by omega
    have a2 : (((b : Int) % ((2 ^ 64 : Nat) : Int)).toNat) = b := by omega
    rw [a1, a2]
    have := Nat.two_pow_add_eq_or_of_lt (i := 8) (b := b) (by omega) m
    rw [Nat.mul_comm m 256]
    exact this.symm
  rw [e3, wrap_u64 (by omega) (by omega)]
  omega
theorem drop_take_all {l : List PV} {n k : Nat} (h : l.length ≤ n) : (l.take n).drop k = l.drop k := by rw [List.take_of_length_le h]

set_option maxRecDepth 100000 in
set_option maxHeartbeats 2000000 in
theorem off_ok (l : List Int) (at_ : Nat) : ACalls Tryd.prog 99 [.ptr 1000 []] [(1000, .row 167 (.p (rdPV l at_ .nilIface)))] (.p (.v (.bool false))) [(1000, .row 167 (.p (rdPV l at_ .nilIface)))] := by
  refine acalls_of (fn := Tryd.f99) Tryd.func99 rfl (by decide) (n := 12) rfl (by simp) (by simp) (by simp [idsOf]) (by simp [idsOf]) ?_
  simp only [argT]
  refine aw_reg rfl fun Khk1 hk1 => ?_
  simp only [go_sem, rdPV]
  refine hk1 _ ?_
  refine aw_reg rfl fun Khk2 hk2 => ?_
  simp only [go_sem, rdPV]
  refine hk2 _ ?_
  refine aw_ret ?_
  refine ret_tmp ?_ ?_
  simp only [go_sem, rdPV]
  simp only [go_sem, rdPV]

set_option maxRecDepth 100000 in
set_option maxHeartbeats 2000000 in
theorem off_dead (l : List Int) (at_ : Nat) (t : TypeId) (v : Value) : ACalls Tryd.prog 99 [.ptr 1000 []] [(1000, .row 167 (.p (rdPV l at_ (.iface t v))))] (.p (.v (.bool true))) [(1000, .row 167 (.p (rdPV l at_ (.iface t v))))] := by
  refine acalls_of (fn := Tryd.f99) Tryd.func99 rfl (by decide) (n := 12) rfl (by simp) (by simp) (by simp [idsOf]) (by simp [idsOf]) ?_
  simp only [argT]
  refine aw_reg rfl fun Khk1 hk1 => ?_
  simp only [go_sem, rdPV]
  refine hk1 _ ?_
  refine aw_reg rfl fun Khk2 hk2 => ?_
  simp only [go_sem, rdPV]
  refine hk2 _ ?_
  refine aw_ret ?_
  refine ret_tmp ?_ ?_
  simp only [go_sem, rdPV]
  simp only [go_sem, rdPV]

set_option maxRecDepth 100000 in
set_option maxHeartbeats 2000000 in
theorem rest_calls (l : List Int) (at_ : Nat) (d : Value) (h : at_ ≤ l.length) : ACalls Tryd.prog 101 [.ptr 1000 []] [(1000, .row 167 (.p (rdPV l at_ d)))] (.p (.sl 1 ((l.drop at_).map B))) [(1000, .row 167 (.p (rdPV l at_ d)))] := by
  refine acalls_of (fn := Tryd.f101) Tryd.func101 rfl (by decide) (n := 12) rfl (by simp) (by simp) (by simp [idsOf]) (by simp [idsOf]) ?_
  simp only [argT]
  refine aw_reg rfl fun Khk1 hk1 => ?_
  simp only [go_sem, rdPV]
  refine hk1 _ ?_
  refine aw_draw _ (by kernel_rfl) rfl rfl fun Jhk2 hk2 => ?_
  simp only [go_sem, rdPV]
  refine ⟨⟨by omega, by omega⟩, ?_⟩
  refine hk2 _ _ _ ⟨by kernel_rfl, by first | exact trivial | (simp only [go_sem, rdPV])⟩ ?_
  refine aw_ret ?_
  refine ret_tmp ?_ ?_
  simp only [go_sem, rdPV]
  exact le_of_eq (by rw [drop_take_all (by simp), List.map_drop])
  simp only [go_sem, rdPV]

set_option maxRecDepth 100000 in
set_option maxHeartbeats 2000000 in
theorem fail_calls (l : List Int) (at_ : Nat) (n : Int) : ACalls Tryd.prog 102 [.ptr 1000 [], .p (.v (.iface 93 (.int .i64 n)))] [(1000, .row 167 (.p (rdPV l at_ .nilIface)))] (.tup []) [(1000, .row 167 (.p (rdPV l at_ (.iface 93 (.int .i64 n)))))] := by
  refine acalls_of (fn := Tryd.f102) Tryd.func102 rfl (by decide) (n := 13) rfl (by simp) (by simp) (by simp [idsOf]) (by simp [idsOf]) ?_
  simp only [argT]
  refine aw_reg rfl fun Khk1 hk1 => ?_
  simp only [go_sem, rdPV]
  refine hk1 _ ?_
  refine aw_cond rfl (fun cc2 => ?_) (fun cc2 => ?_)
  · refine aw_reg_last rfl fun Khk3 hk3 => ?_
    simp only [go_sem, rdPV]
    refine hk3 _ ?_
    exact end_none (by simp only [go_sem, rdPV])
  · cases cc2

end Go.Proofs.YtlfincjibiihaaaDoor
end

section
namespace Go.Proofs.YtlfincjibiihaaaDoor
open Go Go.Av Go.Proofs
set_option linter.unusedVariables false
set_option linter.unusedSimpArgs false
set_option linter.unusedSectionVars false
/-- The number of the first bytes, or the error. -/
def lowR (b : List Int) (many : Nat) : Int × Int := if b.length < many then (0, 12) else if 0 < many ∧ ix b 0 = 0 then (0, 3) else (valB (b.take many), 0)

set_option maxRecDepth 100000 in
set_option maxHeartbeats 2000000 in
theorem low_calls (l : List Int) (at_ many : Nat) (hB : isB l) (h : at_ < l.length) (hm : many ≤ 8) : ACalls Tryd.prog 118 [.ptr 1000 [], .p (.v (.int .i64 many)), .p (.v (.int .u8 0))] [(1000, .row 167 (.p (rdPV l at_ .nilIface)))] (.tup [.p (.v (.int .u64 (lowR ((l.drop at_).drop 1) many).1)), .p (.v (errV (lowR ((l.drop at_).drop 1) many).2))]) [(1000, .row 167 (.p (rdPV l at_ .nilIface)))] := by
  refine acalls_of (fn := Tryd.f118) Tryd.func118 rfl (by decide) (n := 47) rfl (by simp) (by simp) (by simp [idsOf]) (by simp [idsOf]) ?_
  simp only [argT]
  obtain ⟨rs, hrs⟩ : ∃ rs, rs = l.drop at_ := ⟨_, rfl⟩
  have hrl : 0 < rs.length := by rw [hrs, List.length_drop]; omega
  have hrB : isB rs := by rw [hrs]; exact isB_drop hB _
  rw [← hrs]
  obtain ⟨b, hb⟩ : ∃ b, b = rs.drop 1 := ⟨_, rfl⟩
  have hbB : isB b := by rw [hb]; exact isB_drop hrB _
  rw [← hb]
  have e1 : (((rs.map B).take rs.length).drop 1) = b.map B := by rw [drop_take_all (by simp), hb, List.map_drop]
  have e0 : l.drop at_ = rs := hrs.symm
  refine aw_reg rfl fun Khk1 hk1 => ?_
  simp only [go_sem, e0, e1]
  refine hk1 _ ?_
  refine aw_reg rfl fun Khk2 hk2 => ?_
  simp only [go_sem, e0, e1]
  refine bcall (rest_calls l at_ .nilIface (by omega)) (by simp only [go_sem, e0, e1]) (by simp [idsOk, allDead, idsOf, refsIn, AV.refs, AV.refsL]) (by simp only [go_sem]) (by simp only [go_sem, e0, e1]) (by simp only [go_sem, e0, e1]) ?_
  simp only [go_sem, e0, e1]
  refine ⟨⟨hrl, Nat.le_refl _⟩, ?_⟩
  refine hk2 _ ?_
  refine aw_seq fun Khk3 hk3 => ?_
  refine aw_reg rfl fun Khk4 hk4 => ?_
  simp only [go_sem, e0, e1]
  refine hk4 _ ?_
  refine aw_cond rfl (fun cc5 => ?_) (fun cc5 => ?_)
  · have h1 : b.length < many := by simpa using cc5
    have eL : lowR b many = (0, 12) := by rw [lowR, if_pos h1]
    refine aw_reg rfl fun Khk6 hk6 => ?_
    simp only [go_sem, e0, e1]
    refine hk6 _ ?_
    refine aw_ret ?_
    refine ret_tmp2 ?_ ?_ ?_
    · simp only [go_sem, e0, e1]
      rw [eL]; exact le_int rfl
    · simp only [go_sem, e0, e1]
      rw [eL]; exact .inl rfl
    · simp only [go_sem, e0, e1]
  · have h1 : many ≤ b.length := by simpa using cc5
    have e9 : List.drop 0 (List.take many (List.map B b)) = (b.take many).map B := by simp
    have e10 : (b.take many).length = many := by rw [List.length_take]; omega
    refine aw_skip ?_
    refine hk3 _ ?_
    refine aw_seq fun Khk7 hk7 => ?_
    refine aw_reg rfl fun Khk8 hk8 => ?_
    simp only [go_sem, e0, e1, e9, e10]
    refine bg_split (fun cc9 => ?_) (fun cc9 => ?_)
    · have hp : 0 < many := by simpa using cc9
      have hp2 : 0 < b.length := by omega
      simp only [go_sem, e0, e1, e9, e10, hp, hp2, ix_map, B, cc9]
      refine hk8 _ ?_
      refine aw_cond rfl (fun cc10 => ?_) (fun cc10 => ?_)
      · have hz : ix b 0 = 0 := by simpa using cc10
        have eL : lowR b many = (0, 3) := by rw [lowR, if_neg (by omega), if_pos ⟨hp, hz⟩]
        refine aw_reg rfl fun Khk11 hk11 => ?_
        simp only [go_sem, e0, e1, e9, e10, hp, hp2, ix_map, B]
        refine hk11 _ ?_
        refine aw_ret ?_
        refine ret_tmp2 ?_ ?_ ?_
        · simp only [go_sem, e0, e1, e9, e10, hp, hp2, ix_map, B]
          rw [eL]; exact le_int rfl
        · simp only [go_sem, e0, e1, e9, e10, hp, hp2, ix_map, B]
          rw [eL]; exact .inl rfl
        · simp only [go_sem, e0, e1, e9, e10, hp, hp2, ix_map, B]
      · have hz : ix b 0 ≠ 0 := by simpa using cc10
        have eL : lowR b many = (valB (b.take many), 0) := by rw [lowR, if_neg (by omega), if_neg (fun h => hz h.2)]
        refine aw_skip ?_
        refine hk7 _ ?_
        refine aw_reg rfl fun Khk12 hk12 => ?_
        simp only [go_sem, e0, e1, e9, e10, hp, hp2, ix_map, B]
        refine hk12 _ ?_
        refine aw_seq fun Khk13 hk13 => ?_
        refine aw_reg rfl fun Khk14 hk14 => ?_
        simp only [go_sem, e0, e1, e9, e10, hp, hp2, ix_map, B]
        refine ⟨⟨by omega, h1⟩, ?_⟩
        refine hk14 _ ?_
        refine aw_block ?_
        refine aw_loop (α := {k : Nat // k ≤ many})
          (fun x => ⟨47, [(9, .p (.v (.int .u64 (valB (b.take x.1))))), (34, .p (.v (.int .i64 x.1))), (33, .p (.v (.int .i64 many))), (32, .p (.sl 1 ((b.take many).map B))), (2, .p (.v (.int .u8 0)))], [(1000, .row 167 (.p (rdPV l at_ .nilIface)))]⟩)
          (fun x => many - x.1) ⟨0, by omega⟩ (imp_less (by simp only [go_sem, e0, e1, e9, e10, hp, hp2, ix_map, B]; simp only [List.take_zero, valB, List.foldl_nil, le_refl'])) fun ⟨k, hk⟩ => ?_
        refine aw_reg rfl fun Khk15 hk15 => ?_
        simp only [go_sem, e0, e1, e9, e10, hp, hp2, ix_map, B]
        refine hk15 _ ?_
        refine aw_seq fun Khk16 hk16 => ?_
        refine aw_cond rfl (fun cc17 => ?_) (fun cc17 => ?_)
        · have hlt : k < many := by simpa using cc17
          have hkt : k < (b.take many).length := by omega
          have ixt : ix (b.take many) k = ix b k := by rw [ix_get hkt, ix_get (show k < b.length by omega), List.getElem_take]
          have hbk := isB_ix hbB (show k < b.length by omega)
          have hv := valB_rng (k := k) (isB_take hbB k) (by rw [List.length_take]; omega)
          have hpw : (256 : Int) ^ k ≤ 256 ^ 7 := by exact_mod_cast Nat.pow_le_pow_right (by decide) (show k ≤ 7 by omega)
          have hstep := byte_in hv.1 (by omega) hbk.1 hbk.2
          have hnx : valB (b.take (k + 1)) = valB (b.take k) * 256 + ix b k := by rw [List.take_succ_eq_append_getElem (show k < b.length by omega), valB_snoc, ix_get (show k < b.length by omega)]
          refine aw_skip ?_
          refine hk16 _ ?_
          refine aw_seq fun Khk18 hk18 => ?_
          refine aw_block ?_
          refine aw_reg rfl fun Khk19 hk19 => ?_
          simp only [go_sem, e0, e1, e9, e10, hp, hp2, ix_map, B, hlt, hkt, ixt]
          refine hk19 _ ?_
          refine aw_reg_last rfl fun Khk20 hk20 => ?_
          simp only [go_sem, e0, e1, e9, e10, hp, hp2, ix_map, B, hlt, hkt, ixt]
          refine hk20 _ ?_
          refine hk18 _ ?_
          refine aw_reg_last rfl fun Khk21 hk21 => ?_
          simp only [go_sem, e0, e1, e9, e10, hp, hp2, ix_map, B, hlt, hkt, ixt]
          refine hk21 _ ?_
          refine ⟨⟨k + 1, hlt⟩, imp_less (by simp only [go_sem, e0, e1, e9, e10, hp, hp2, ix_map, B, hlt, hkt, ixt]; exact ⟨le_int (by rw [hnx]; exact hstep), le_int (wrap_i64 (by omega) (by omega))⟩), by simp only; omega⟩
        · have hke : k = many := by simp at cc17; omega
          subst hke
          refine aw_exit ?_
          refine hk13 _ ?_
          refine aw_reg rfl fun Khk22 hk22 => ?_
          simp only [go_sem, e0, e1, e9, e10, hp, hp2, ix_map, B]
          refine hk22 _ ?_
          refine aw_ret ?_
          refine ret_tmp2 ?_ ?_ ?_
          · simp only [go_sem, e0, e1, e9, e10, hp, hp2, ix_map, B]
            rw [eL]; exact le_int rfl
          · simp only [go_sem, e0, e1, e9, e10, hp, hp2, ix_map, B]
            rw [eL]; exact .inl rfl
          · simp only [go_sem, e0, e1, e9, e10, hp, hp2, ix_map, B]
    · have hp : many = 0 := by simp at cc9; omega
      have eL : lowR b many = (valB (b.take many), 0) := by rw [lowR, if_neg (by omega), if_neg (by omega)]
      simp only [go_sem, e0, e1, e9, e10, cc9]
      refine hk8 _ ?_
      refine aw_cond (b := false) (by simp only [go_sem, e0, e1, e9, e10, cc9]) (fun h => by cases h) (fun _ => ?_)
      refine aw_skip ?_
      refine hk7 _ ?_
      refine aw_reg rfl fun Khk23 hk23 => ?_
      simp only [go_sem, e0, e1, e9, e10]
      refine hk23 _ ?_
      refine aw_seq fun Khk24 hk24 => ?_
      refine aw_reg rfl fun Khk25 hk25 => ?_
      simp only [go_sem, e0, e1, e9, e10]
      refine ⟨⟨by omega, h1⟩, ?_⟩
      refine hk25 _ ?_
      refine aw_block ?_
      refine aw_loop (α := {k : Nat // k ≤ many})
        (fun x => ⟨47, [(9, .p (.v (.int .u64 (valB (b.take x.1))))), (34, .p (.v (.int .i64 x.1))), (33, .p (.v (.int .i64 many))), (32, .p (.sl 1 ((b.take many).map B))), (2, .p (.v (.int .u8 0)))], [(1000, .row 167 (.p (rdPV l at_ .nilIface)))]⟩)
        (fun x => many - x.1) ⟨0, by omega⟩ (imp_less (by simp only [go_sem, e0, e1, e9, e10]; simp only [List.take_zero, valB, List.foldl_nil, le_refl'])) fun ⟨k, hk⟩ => ?_
      refine aw_reg rfl fun Khk26 hk26 => ?_
      simp only [go_sem, e0, e1, e9, e10]
      refine hk26 _ ?_
      refine aw_seq fun Khk27 hk27 => ?_
      refine aw_cond rfl (fun cc28 => ?_) (fun cc28 => ?_)
      · have hlt : k < many := by simpa using cc28
        have hkt : k < (b.take many).length := by omega
        have ixt : ix (b.take many) k = ix b k := by rw [ix_get hkt, ix_get (show k < b.length by omega), List.getElem_take]
        have hbk := isB_ix hbB (show k < b.length by omega)
        have hv := valB_rng (k := k) (isB_take hbB k) (by rw [List.length_take]; omega)
        have hpw : (256 : Int) ^ k ≤ 256 ^ 7 := by exact_mod_cast Nat.pow_le_pow_right (by decide) (show k ≤ 7 by omega)
        have hstep := byte_in hv.1 (by omega) hbk.1 hbk.2
        have hnx : valB (b.take (k + 1)) = valB (b.take k) * 256 + ix b k := by rw [List.take_succ_eq_append_getElem (show k < b.length by omega), valB_snoc, ix_get (show k < b.length by omega)]
        refine aw_skip ?_
        refine hk27 _ ?_
        refine aw_seq fun Khk29 hk29 => ?_
        refine aw_block ?_
        refine aw_reg rfl fun Khk30 hk30 => ?_
        simp only [go_sem, e0, e1, e9, e10, hlt, hkt, ix_map, ixt, B]
        refine hk30 _ ?_
        refine aw_reg_last rfl fun Khk31 hk31 => ?_
        simp only [go_sem, e0, e1, e9, e10, hlt, hkt, ix_map, ixt, B]
        refine hk31 _ ?_
        refine hk29 _ ?_
        refine aw_reg_last rfl fun Khk32 hk32 => ?_
        simp only [go_sem, e0, e1, e9, e10, hlt, hkt, ix_map, ixt, B]
        refine hk32 _ ?_
        refine ⟨⟨k + 1, hlt⟩, imp_less (by simp only [go_sem, e0, e1, e9, e10, hlt, hkt, ix_map, ixt, B]; exact ⟨le_int (by rw [hnx]; exact hstep), le_int (wrap_i64 (by omega) (by omega))⟩), by simp only; omega⟩
      · have hke : k = many := by simp at cc28; omega
        subst hke
        refine aw_exit ?_
        refine hk24 _ ?_
        refine aw_reg rfl fun Khk33 hk33 => ?_
        simp only [go_sem, e0, e1, e9, e10]
        refine hk33 _ ?_
        refine aw_ret ?_
        refine ret_tmp2 ?_ ?_ ?_
        · simp only [go_sem, e0, e1, e9, e10]
          rw [eL]; exact le_int rfl
        · simp only [go_sem, e0, e1, e9, e10]
          rw [eL]; exact .inl rfl
        · simp only [go_sem, e0, e1, e9, e10]

end Go.Proofs.YtlfincjibiihaaaDoor
end

section
namespace Go.Proofs.YtlfincjibiihaaaDoor
open Go Go.Av Go.Proofs
set_option linter.unusedVariables false
set_option linter.unusedSimpArgs false
set_option linter.unusedSectionVars false
/-- The number up to a bound, how many bytes it takes, whether it is there, the error. -/
def numR (rs : List Int) (most : Int) : Int × Nat × Bool × Int :=
  if rs.length = 0 then (0, 0, false, 12) else if 8 < ix rs 0 then (0, 0, false, 3)
  else if (lowR (rs.drop 1) (ix rs 0).toNat).2 ≠ 0 then (0, 0, false, (lowR (rs.drop 1) (ix rs 0).toNat).2)
  else if most < (lowR (rs.drop 1) (ix rs 0).toNat).1 then (0, 0, false, 4)
  else ((lowR (rs.drop 1) (ix rs 0).toNat).1, 1 + (ix rs 0).toNat, true, 0)
theorem low_err (l : List Int) (at_ many : Nat) (e : Int) (hB : isB l) (h : at_ < l.length) (hm : many ≤ 8) (h0 : (lowR ((l.drop at_).drop 1) many).2 = e) (he : e ≠ 0) :
    ACalls Tryd.prog 118 [.ptr 1000 [], .p (.v (.int .i64 many)), .p (.v (.int .u8 0))] [(1000, .row 167 (.p (rdPV l at_ .nilIface)))] (.tup [.p (.v (.int .u64 (lowR ((l.drop at_).drop 1) many).1)), .p (.v (.iface 93 (.int .i64 e)))]) [(1000, .row 167 (.p (rdPV l at_ .nilIface)))] := by
  have := low_calls l at_ many hB h hm
  rw [h0] at this
  simpa only [errV, if_neg he] using this
theorem low_ok (l : List Int) (at_ many : Nat) (hB : isB l) (h : at_ < l.length) (hm : many ≤ 8) (h0 : (lowR ((l.drop at_).drop 1) many).2 = 0) :
    ACalls Tryd.prog 118 [.ptr 1000 [], .p (.v (.int .i64 many)), .p (.v (.int .u8 0))] [(1000, .row 167 (.p (rdPV l at_ .nilIface)))] (.tup [.p (.v (.int .u64 (lowR ((l.drop at_).drop 1) many).1)), .p (.v .nilIface)]) [(1000, .row 167 (.p (rdPV l at_ .nilIface)))] := by
  have := low_calls l at_ many hB h hm
  rw [h0] at this
  exact this

set_option maxRecDepth 100000 in
set_option maxHeartbeats 2000000 in
theorem number_err (l : List Int) (at_ : Nat) (most : Int) (hB : isB l) (h : at_ ≤ l.length) (hk : (l.drop at_).length = 0 ∨ 8 < ix (l.drop at_) 0 ∨ (lowR ((l.drop at_).drop 1) (ix (l.drop at_) 0).toNat).2 ≠ 0) : ACalls Tryd.prog 100 [.ptr 1000 [], .p (.v (.int .u64 most))] [(1000, .row 167 (.p (rdPV l at_ .nilIface)))] (.tup [.p (.v (.int .u64 0)), .p (.v (.int .i64 0)), .p (.v (.bool false))]) [(1000, .row 167 (.p (rdPV l at_ (.iface 93 (.int .i64 (numR (l.drop at_) most).2.2.2)))))] := by
  refine acalls_of (fn := Tryd.f100) Tryd.func100 rfl (by decide) (n := 55) rfl (by simp) (by simp) (by simp [idsOf]) (by simp [idsOf]) ?_
  simp only [argT]
  obtain ⟨rs, hrs⟩ : ∃ rs, rs = l.drop at_ := ⟨_, rfl⟩
  have hrB : isB rs := by rw [hrs]; exact isB_drop hB _
  have hrl : rs.length = l.length - at_ := by rw [hrs, List.length_drop]
  have e0 : l.drop at_ = rs := hrs.symm
  rw [e0] at hk ⊢
  refine aw_reg rfl fun Khk1 hk1 => ?_
  simp only [go_sem, B, e0]
  refine hk1 _ ?_
  refine aw_reg rfl fun Khk2 hk2 => ?_
  simp only [go_sem, B, e0]
  refine bcall (rest_calls l at_ .nilIface h) (by simp only [go_sem, B, e0]) (by simp [idsOk, allDead, idsOf, refsIn, AV.refs, AV.refsL]) (by simp only [go_sem]) (by simp only [go_sem, B, e0]) (by simp only [go_sem, B, e0]) ?_
  simp only [go_sem, B, e0]
  refine hk2 _ ?_
  refine aw_seq fun Khk3 hk3 => ?_
  refine aw_block ?_
  refine aw_reg rfl fun Khk4 hk4 => ?_
  simp only [go_sem, B, e0]
  refine hk4 _ ?_
  refine aw_cond rfl (fun cc5 => ?_) (fun cc5 => ?_)
  · have h1 : rs.length = 0 := by simpa using cc5
    have eN : (numR rs most).2.2.2 = 12 := by rw [numR, if_pos h1]
    refine aw_reg rfl fun Khk6 hk6 => ?_
    simp only [go_sem, B, e0]
    refine bcall (fail_calls l at_ 12) (by simp only [go_sem, B, e0]) (by simp [idsOk, allDead, idsOf, refsIn, AV.refs, AV.refsL]) (by simp only [go_sem]) (by simp only [go_sem, B, e0]) (by simp only [go_sem, B, e0]) ?_
    simp only [go_sem, B, e0]
    refine hk6 _ ?_
    refine aw_reg rfl fun Khk7 hk7 => ?_
    simp only [go_sem, B, e0]
    refine hk7 _ ?_
    refine aw_ret ?_
    refine ret_tmp3 ?_ ?_ ?_ ?_
    · simp only [go_sem, B, e0]
    · simp only [go_sem, B, e0]
    · simp only [go_sem, B, e0]
    · simp only [go_sem, B, e0]; rw [eN]
  · have h1 : ¬ rs.length = 0 := by simpa using cc5
    have h1p : 0 < rs.length := by omega
    refine aw_reg rfl fun Khk8 hk8 => ?_
    simp only [go_sem, B, e0, h1p, ix_map]
    refine hk8 _ ?_
    refine aw_cond rfl (fun cc9 => ?_) (fun cc9 => ?_)
    · have h2 : 8 < ix rs 0 := by simpa using cc9
      have eN : (numR rs most).2.2.2 = 3 := by rw [numR, if_neg h1, if_pos h2]
      refine aw_reg rfl fun Khk10 hk10 => ?_
      simp only [go_sem, B, e0, h1p, ix_map]
      refine bcall (fail_calls l at_ 3) (by simp only [go_sem, B, e0, h1p, ix_map]) (by simp [idsOk, allDead, idsOf, refsIn, AV.refs, AV.refsL]) (by simp only [go_sem]) (by simp only [go_sem, B, e0, h1p, ix_map]) (by simp only [go_sem, B, e0, h1p, ix_map]) ?_
      simp only [go_sem, B, e0, h1p, ix_map]
      refine hk10 _ ?_
      refine aw_reg rfl fun Khk11 hk11 => ?_
      simp only [go_sem, B, e0, h1p, ix_map]
      refine hk11 _ ?_
      refine aw_ret ?_
      refine ret_tmp3 ?_ ?_ ?_ ?_
      · simp only [go_sem, B, e0, h1p, ix_map]
      · simp only [go_sem, B, e0, h1p, ix_map]
      · simp only [go_sem, B, e0, h1p, ix_map]
      · simp only [go_sem, B, e0, h1p, ix_map]; rw [eN]
    · have h2 : ¬ 8 < ix rs 0 := by simpa using cc9
      have h3 : (lowR (rs.drop 1) (ix rs 0).toNat).2 ≠ 0 := (hk.resolve_left h1).resolve_left h2
      have eN : (numR rs most).2.2.2 = (lowR (rs.drop 1) (ix rs 0).toNat).2 := by rw [numR, if_neg h1, if_neg h2, if_pos h3]
      have hb0 := isB_ix hrB h1p
      obtain ⟨m, hm⟩ : ∃ m : Nat, ix rs 0 = m := ⟨(ix rs 0).toNat, by omega⟩
      rw [hm, Int.toNat_natCast] at h3 eN
      have hm8 : m ≤ 8 := by omega
      have hat : at_ < l.length := by omega
      obtain ⟨e, hlo⟩ : ∃ e, (lowR (rs.drop 1) m).2 = e := ⟨_, rfl⟩
      have hne : e ≠ 0 := by rw [← hlo]; exact h3
      rw [hlo] at eN
      have ew : IntKind.wrap .i64 (m : Int) = m := wrap_nat (by omega)
      refine aw_skip ?_
      refine hk3 _ ?_
      refine aw_reg rfl fun Khk12 hk12 => ?_
      simp only [go_sem, B, e0, h1p, ix_map, hm, ew]
      refine bcall (low_err l at_ m e hB hat hm8 (by rw [e0]; exact hlo) hne) (by simp only [go_sem, B, e0, h1p, ix_map, hm, ew]) (by simp [idsOk, allDead, idsOf, refsIn, AV.refs, AV.refsL]) (by simp only [go_sem]) (by simp only [go_sem, B, e0, h1p, ix_map, hm, ew]) (by simp only [go_sem, B, e0, h1p, ix_map, hm, ew]) ?_
      simp only [go_sem, B, e0, h1p, ix_map, hm, ew]
      refine hk12 _ ?_
      refine aw_seq fun Khk13 hk13 => ?_
      refine aw_reg rfl fun Khk14 hk14 => ?_
      simp only [go_sem, B, e0, h1p, ix_map, hm, ew]
      refine hk14 _ ?_
      refine aw_cond (b := false) (by simp only [go_sem, B, e0, h1p, ix_map, hm, ew]) (fun h => by cases h) (fun _ => ?_)
      refine aw_skip ?_
      refine hk13 _ ?_
      refine aw_seq fun Khk15 hk15 => ?_
      refine aw_reg rfl fun Khk16 hk16 => ?_
      simp only [go_sem, B, e0, h1p, ix_map, hm, ew]
      refine hk16 _ ?_
      refine aw_cond rfl (fun cc17 => ?_) (fun cc17 => ?_)
      · refine aw_reg rfl fun Khk18 hk18 => ?_
        simp only [go_sem, B, e0, h1p, ix_map, hm, ew]
        refine bcall (fail_calls l at_ e) (by simp only [go_sem, B, e0, h1p, ix_map, hm, ew]) (by simp [idsOk, allDead, idsOf, refsIn, AV.refs, AV.refsL]) (by simp only [go_sem]) (by simp only [go_sem, B, e0, h1p, ix_map, hm, ew]) (by simp only [go_sem, B, e0, h1p, ix_map, hm, ew]) ?_
        simp only [go_sem, B, e0, h1p, ix_map, hm, ew]
        refine hk18 _ ?_
        refine aw_reg rfl fun Khk19 hk19 => ?_
        simp only [go_sem, B, e0, h1p, ix_map, hm, ew]
        refine hk19 _ ?_
        refine aw_ret ?_
        refine ret_tmp3 ?_ ?_ ?_ ?_
        · simp only [go_sem, B, e0, h1p, ix_map, hm, ew]
        · simp only [go_sem, B, e0, h1p, ix_map, hm, ew]
        · simp only [go_sem, B, e0, h1p, ix_map, hm, ew]
        · simp only [go_sem, B, e0, h1p, ix_map, hm, ew]; rw [eN]
      · cases cc17

set_option maxRecDepth 100000 in
set_option maxHeartbeats 2000000 in
theorem number_big (l : List Int) (at_ : Nat) (most : Int) (hB : isB l) (h : at_ ≤ l.length) (h1 : ¬ (l.drop at_).length = 0) (h2 : ¬ 8 < ix (l.drop at_) 0) (h3 : (lowR ((l.drop at_).drop 1) (ix (l.drop at_) 0).toNat).2 = 0) (hk : most < (lowR ((l.drop at_).drop 1) (ix (l.drop at_) 0).toNat).1) : ACalls Tryd.prog 100 [.ptr 1000 [], .p (.v (.int .u64 most))] [(1000, .row 167 (.p (rdPV l at_ .nilIface)))] (.tup [.p (.v (.int .u64 0)), .p (.v (.int .i64 0)), .p (.v (.bool false))]) [(1000, .row 167 (.p (rdPV l at_ (.iface 93 (.int .i64 4)))))] := by
  refine acalls_of (fn := Tryd.f100) Tryd.func100 rfl (by decide) (n := 55) rfl (by simp) (by simp) (by simp [idsOf]) (by simp [idsOf]) ?_
  simp only [argT]
  obtain ⟨rs, hrs⟩ : ∃ rs, rs = l.drop at_ := ⟨_, rfl⟩
  have hrB : isB rs := by rw [hrs]; exact isB_drop hB _
  have hrl : rs.length = l.length - at_ := by rw [hrs, List.length_drop]
  have e0 : l.drop at_ = rs := hrs.symm
  rw [e0] at h1 h2 h3 hk
  refine aw_reg rfl fun Khk1 hk1 => ?_
  simp only [go_sem, B, e0]
  refine hk1 _ ?_
  refine aw_reg rfl fun Khk2 hk2 => ?_
  simp only [go_sem, B, e0]
  refine bcall (rest_calls l at_ .nilIface h) (by simp only [go_sem, B, e0]) (by simp [idsOk, allDead, idsOf, refsIn, AV.refs, AV.refsL]) (by simp only [go_sem]) (by simp only [go_sem, B, e0]) (by simp only [go_sem, B, e0]) ?_
  simp only [go_sem, B, e0]
  refine hk2 _ ?_
  refine aw_seq fun Khk3 hk3 => ?_
  refine aw_block ?_
  refine aw_reg rfl fun Khk4 hk4 => ?_
  simp only [go_sem, B, e0]
  refine hk4 _ ?_
  refine aw_cond rfl (fun cc5 => ?_) (fun cc5 => ?_)
  · exact absurd (by simpa using cc5) h1
  · have h1p : 0 < rs.length := by omega
    refine aw_reg rfl fun Khk6 hk6 => ?_
    simp only [go_sem, B, e0, h1p, ix_map]
    refine hk6 _ ?_
    refine aw_cond rfl (fun cc7 => ?_) (fun cc7 => ?_)
    · exact absurd (by simpa using cc7) h2
    · have hb0 := isB_ix hrB h1p
      obtain ⟨m, hm⟩ : ∃ m : Nat, ix rs 0 = m := ⟨(ix rs 0).toNat, by omega⟩
      rw [hm, Int.toNat_natCast] at h3 hk
      have hm8 : m ≤ 8 := by omega
      have hat : at_ < l.length := by omega
      have ew : IntKind.wrap .i64 (m : Int) = m := wrap_nat (by omega)
      refine aw_skip ?_
      refine hk3 _ ?_
      refine aw_reg rfl fun Khk8 hk8 => ?_
      simp only [go_sem, B, e0, h1p, ix_map, hm, ew]
      refine bcall (low_ok l at_ m hB hat hm8 (by rw [e0]; exact h3)) (by simp only [go_sem, B, e0, h1p, ix_map, hm, ew]) (by simp [idsOk, allDead, idsOf, refsIn, AV.refs, AV.refsL]) (by simp only [go_sem]) (by simp only [go_sem, B, e0, h1p, ix_map, hm, ew]) (by simp only [go_sem, B, e0, h1p, ix_map, hm, ew]) ?_
      simp only [go_sem, B, e0, h1p, ix_map, hm, ew]
      refine hk8 _ ?_
      refine aw_seq fun Khk9 hk9 => ?_
      refine aw_reg rfl fun Khk10 hk10 => ?_
      simp only [go_sem, B, e0, h1p, ix_map, hm, ew]
      refine hk10 _ ?_
      refine aw_cond rfl (fun cc11 => ?_) (fun cc11 => ?_)
      · refine aw_reg_last rfl fun Khk12 hk12 => ?_
        simp only [go_sem, B, e0, h1p, ix_map, hm, ew]
        refine hk12 _ ?_
        refine hk9 _ ?_
        refine aw_seq fun Khk13 hk13 => ?_
        refine aw_reg rfl fun Khk14 hk14 => ?_
        simp only [go_sem, B, e0, h1p, ix_map, hm, ew]
        refine hk14 _ ?_
        refine aw_cond rfl (fun cc15 => ?_) (fun cc15 => ?_)
        · refine aw_reg rfl fun Khk16 hk16 => ?_
          simp only [go_sem, B, e0, h1p, ix_map, hm, ew]
          refine bcall (fail_calls l at_ 4) (by simp only [go_sem, B, e0, h1p, ix_map, hm, ew]) (by simp [idsOk, allDead, idsOf, refsIn, AV.refs, AV.refsL]) (by simp only [go_sem]) (by simp only [go_sem, B, e0, h1p, ix_map, hm, ew]) (by simp only [go_sem, B, e0, h1p, ix_map, hm, ew]) ?_
          simp only [go_sem, B, e0, h1p, ix_map, hm, ew]
          refine hk16 _ ?_
          refine aw_reg rfl fun Khk17 hk17 => ?_
          simp only [go_sem, B, e0, h1p, ix_map, hm, ew]
          refine hk17 _ ?_
          refine aw_ret ?_
          refine ret_tmp3 ?_ ?_ ?_ ?_
          · simp only [go_sem, B, e0, h1p, ix_map, hm, ew]
          · simp only [go_sem, B, e0, h1p, ix_map, hm, ew]
          · simp only [go_sem, B, e0, h1p, ix_map, hm, ew]
          · simp only [go_sem, B, e0, h1p, ix_map, hm, ew]
        · cases cc15
      · exact absurd hk (of_decide_eq_false cc11)

set_option maxRecDepth 100000 in
set_option maxHeartbeats 2000000 in
theorem number_ok (l : List Int) (at_ : Nat) (most : Int) (hB : isB l) (h : at_ ≤ l.length) (h1 : ¬ (l.drop at_).length = 0) (h2 : ¬ 8 < ix (l.drop at_) 0) (h3 : (lowR ((l.drop at_).drop 1) (ix (l.drop at_) 0).toNat).2 = 0) (hk : ¬ most < (lowR ((l.drop at_).drop 1) (ix (l.drop at_) 0).toNat).1) : ACalls Tryd.prog 100 [.ptr 1000 [], .p (.v (.int .u64 most))] [(1000, .row 167 (.p (rdPV l at_ .nilIface)))] (.tup [.p (.v (.int .u64 (lowR ((l.drop at_).drop 1) (ix (l.drop at_) 0).toNat).1)), .p (.v (.int .i64 ((1 + (ix (l.drop at_) 0).toNat : Nat) : Int))), .p (.v (.bool true))]) [(1000, .row 167 (.p (rdPV l at_ .nilIface)))] := by
  refine acalls_of (fn := Tryd.f100) Tryd.func100 rfl (by decide) (n := 55) rfl (by simp) (by simp) (by simp [idsOf]) (by simp [idsOf]) ?_
  simp only [argT]
  obtain ⟨rs, hrs⟩ : ∃ rs, rs = l.drop at_ := ⟨_, rfl⟩
  have hrB : isB rs := by rw [hrs]; exact isB_drop hB _
  have hrl : rs.length = l.length - at_ := by rw [hrs, List.length_drop]
  have e0 : l.drop at_ = rs := hrs.symm
  rw [e0] at h1 h2 h3 hk ⊢
  refine aw_reg rfl fun Khk1 hk1 => ?_
  simp only [go_sem, B, e0]
  refine hk1 _ ?_
  refine aw_reg rfl fun Khk2 hk2 => ?_
  simp only [go_sem, B, e0]
  refine bcall (rest_calls l at_ .nilIface h) (by simp only [go_sem, B, e0]) (by simp [idsOk, allDead, idsOf, refsIn, AV.refs, AV.refsL]) (by simp only [go_sem]) (by simp only [go_sem, B, e0]) (by simp only [go_sem, B, e0]) ?_
  simp only [go_sem, B, e0]
  refine hk2 _ ?_
  refine aw_seq fun Khk3 hk3 => ?_
  refine aw_block ?_
  refine aw_reg rfl fun Khk4 hk4 => ?_
  simp only [go_sem, B, e0]
  refine hk4 _ ?_
  refine aw_cond rfl (fun cc5 => ?_) (fun cc5 => ?_)
  · exact absurd (by simpa using cc5) h1
  · have h1p : 0 < rs.length := by omega
    refine aw_reg rfl fun Khk6 hk6 => ?_
    simp only [go_sem, B, e0, h1p, ix_map]
    refine hk6 _ ?_
    refine aw_cond rfl (fun cc7 => ?_) (fun cc7 => ?_)
    · exact absurd (by simpa using cc7) h2
    · have hb0 := isB_ix hrB h1p
      obtain ⟨m, hm⟩ : ∃ m : Nat, ix rs 0 = m := ⟨(ix rs 0).toNat, by omega⟩
      rw [hm, Int.toNat_natCast] at h3 hk ⊢
      have hm8 : m ≤ 8 := by omega
      have hat : at_ < l.length := by omega
      have ew : IntKind.wrap .i64 (m : Int) = m := wrap_nat (by omega)
      refine aw_skip ?_
      refine hk3 _ ?_
      refine aw_reg rfl fun Khk8 hk8 => ?_
      simp only [go_sem, B, e0, h1p, ix_map, hm, ew]
      refine bcall (low_ok l at_ m hB hat hm8 (by rw [e0]; exact h3)) (by simp only [go_sem, B, e0, h1p, ix_map, hm, ew]) (by simp [idsOk, allDead, idsOf, refsIn, AV.refs, AV.refsL]) (by simp only [go_sem]) (by simp only [go_sem, B, e0, h1p, ix_map, hm, ew]) (by simp only [go_sem, B, e0, h1p, ix_map, hm, ew]) ?_
      simp only [go_sem, B, e0, h1p, ix_map, hm, ew]
      refine hk8 _ ?_
      refine aw_seq fun Khk9 hk9 => ?_
      refine aw_reg rfl fun Khk10 hk10 => ?_
      simp only [go_sem, B, e0, h1p, ix_map, hm, ew]
      refine hk10 _ ?_
      refine aw_cond rfl (fun cc11 => ?_) (fun cc11 => ?_)
      · exact absurd (by simpa using cc11) hk
      · refine aw_skip ?_
        refine hk9 _ ?_
        refine aw_seq fun Khk12 hk12 => ?_
        refine aw_reg rfl fun Khk13 hk13 => ?_
        simp only [go_sem, B, e0, h1p, ix_map, hm, ew]
        refine hk13 _ ?_
        refine aw_cond rfl (fun cc14 => ?_) (fun cc14 => ?_)
        · cases cc14
        · refine aw_skip ?_
          refine hk12 _ ?_
          refine aw_draw _ (by kernel_rfl) rfl rfl fun Jhk15 hk15 => ?_
          simp only [go_sem, B, e0, h1p, ix_map, hm, ew]
          refine hk15 _ _ _ ⟨by kernel_rfl, by first | exact trivial | (simp only [go_sem, B, e0, h1p, ix_map, hm, ew])⟩ ?_
          refine aw_ret ?_
          refine ret_tmp3 ?_ ?_ ?_ ?_
          · simp only [go_sem, B, e0, h1p, ix_map, hm, ew]
          · simp only [go_sem, B, e0, h1p, ix_map, hm, ew]
            exact le_int (by rw [wrap_i64 (by omega) (by omega)]; omega)
          · simp only [go_sem, B, e0, h1p, ix_map, hm, ew]
          · simp only [go_sem, B, e0, h1p, ix_map, hm, ew]

end Go.Proofs.YtlfincjibiihaaaDoor
end

section
namespace Go.Proofs.YtlfincjibiihaaaDoor
open Go Go.Av Go.Proofs
set_option linter.unusedVariables false
set_option linter.unusedSimpArgs false
set_option linter.unusedSectionVars false
theorem number_fail (l : List Int) (at_ : Nat) (most : Int) (hB : isB l) (h : at_ ≤ l.length) (hf : (numR (l.drop at_) most).2.2.1 = false) :
    ACalls Tryd.prog 100 [.ptr 1000 [], .p (.v (.int .u64 most))] [(1000, .row 167 (.p (rdPV l at_ .nilIface)))] (.tup [.p (.v (.int .u64 0)), .p (.v (.int .i64 0)), .p (.v (.bool false))]) [(1000, .row 167 (.p (rdPV l at_ (.iface 93 (.int .i64 (numR (l.drop at_) most).2.2.2)))))] := by
  by_cases h1 : (l.drop at_).length = 0
  · exact number_err l at_ most hB h (.inl h1)
  by_cases h2 : 8 < ix (l.drop at_) 0
  · exact number_err l at_ most hB h (.inr (.inl h2))
  by_cases h3 : (lowR ((l.drop at_).drop 1) (ix (l.drop at_) 0).toNat).2 ≠ 0
  · exact number_err l at_ most hB h (.inr (.inr h3))
  have h3' := Decidable.not_not.1 h3
  by_cases hk : most < (lowR ((l.drop at_).drop 1) (ix (l.drop at_) 0).toNat).1
  · have := number_big l at_ most hB h h1 h2 h3' hk
    have e : (numR (l.drop at_) most).2.2.2 = 4 := by rw [numR, if_neg h1, if_neg h2, if_neg h3, if_pos hk]
    rw [e]
    exact this
  · rw [numR, if_neg h1, if_neg h2, if_neg h3, if_neg hk] at hf
    cases hf
theorem number_succ (l : List Int) (at_ : Nat) (most : Int) (hB : isB l) (h : at_ ≤ l.length) (hf : (numR (l.drop at_) most).2.2.1 = true) :
    ACalls Tryd.prog 100 [.ptr 1000 [], .p (.v (.int .u64 most))] [(1000, .row 167 (.p (rdPV l at_ .nilIface)))] (.tup [.p (.v (.int .u64 (numR (l.drop at_) most).1)), .p (.v (.int .i64 ((numR (l.drop at_) most).2.1 : Nat))), .p (.v (.bool true))]) [(1000, .row 167 (.p (rdPV l at_ .nilIface)))] := by
  by_cases h1 : (l.drop at_).length = 0
  · rw [numR, if_pos h1] at hf; cases hf
  by_cases h2 : 8 < ix (l.drop at_) 0
  · rw [numR, if_neg h1, if_pos h2] at hf; cases hf
  by_cases h3 : (lowR ((l.drop at_).drop 1) (ix (l.drop at_) 0).toNat).2 ≠ 0
  · rw [numR, if_neg h1, if_neg h2, if_pos h3] at hf; cases hf
  have h3' := Decidable.not_not.1 h3
  by_cases hk : most < (lowR ((l.drop at_).drop 1) (ix (l.drop at_) 0).toNat).1
  · rw [numR, if_neg h1, if_neg h2, if_neg h3, if_pos hk] at hf; cases hf
  have := number_ok l at_ most hB h h1 h2 h3' hk
  have e : numR (l.drop at_) most = ((lowR ((l.drop at_).drop 1) (ix (l.drop at_) 0).toNat).1, 1 + (ix (l.drop at_) 0).toNat, true, 0) := by rw [numR, if_neg h1, if_neg h2, if_neg h3, if_neg hk]
  rw [e]
  exact this
theorem lowR_facts {b : List Int} {m : Nat} (hB : isB b) (h : (lowR b m).2 = 0) : m ≤ b.length ∧ 0 ≤ (lowR b m).1 := by
  unfold lowR at h ⊢
  split at h
  · cases h
  · rename_i h1
    split at h
    · cases h
    · rename_i h2
      rw [if_neg h1, if_neg h2]
      exact ⟨by omega, (valB_rng (isB_take hB m) rfl).1⟩
theorem num_facts {rs : List Int} {most : Int} (hf : (numR rs most).2.2.1 = true) (hB : isB rs) : 0 ≤ (numR rs most).1 ∧ (numR rs most).1 ≤ most ∧ 1 ≤ (numR rs most).2.1 ∧ (numR rs most).2.1 ≤ 9 ∧ (numR rs most).2.1 ≤ rs.length := by
  unfold numR at hf ⊢
  split at hf
  · cases hf
  rename_i h1
  split at hf
  · cases hf
  rename_i h2
  split at hf
  · cases hf
  rename_i h3
  split at hf
  · cases hf
  rename_i h4
  rw [if_neg h1, if_neg h2, if_neg h3, if_neg h4]
  have hb0 := isB_ix hB (show 0 < rs.length by omega)
  have h5 := lowR_facts (isB_drop hB 1) (Decidable.not_not.1 h3)
  have h6 : (rs.drop 1).length = rs.length - 1 := List.length_drop
  refine ⟨h5.2, by simp only; omega, by simp only; omega, by simp only; omega, by simp only; omega⟩

set_option maxRecDepth 100000 in
set_option maxHeartbeats 2000000 in
theorem read_calls (l : List Int) : ACalls Tryd.prog 70 [.p (.sl 1 (l.map B))] [] (.ptr 5 []) [(5, .row 167 (.p (rdPV l 0 .nilIface)))] := by
  refine acalls_of (fn := Tryd.f70) Tryd.func70 rfl (by decide) (n := 6) rfl (by simp) (by simp) (by simp [idsOf]) (by simp [idsOf]) ?_
  simp only [argT]
  refine aw_reg rfl fun Khk1 hk1 => ?_
  simp only [go_sem, rdPV]
  refine hk1 _ ?_
  refine aw_reg rfl fun Khk2 hk2 => ?_
  simp only [go_sem, rdPV]
  refine hk2 _ ?_
  refine aw_ret ?_
  refine ret_tmp ?_ ?_
  simp only [go_sem, rdPV]
  simp only [go_sem, rdPV]

set_option maxRecDepth 100000 in
set_option maxHeartbeats 2000000 in
theorem ruint_dead (l : List Int) (at_ : Nat) (most : Int) (t : TypeId) (v : Value) : ACalls Tryd.prog 72 [.ptr 1000 [], .p (.v (.int .u64 most))] [(1000, .row 167 (.p (rdPV l at_ (.iface t v))))] (.p (.v (.int .u64 0))) [(1000, .row 167 (.p (rdPV l at_ (.iface t v))))] := by
  refine acalls_of (fn := Tryd.f72) Tryd.func72 rfl (by decide) (n := 27) rfl (by simp) (by simp) (by simp [idsOf]) (by simp [idsOf]) ?_
  simp only [argT]
  refine aw_reg rfl fun Khk1 hk1 => ?_
  simp only [go_sem]
  refine hk1 _ ?_
  refine aw_seq fun Khk2 hk2 => ?_
  refine aw_reg rfl fun Khk3 hk3 => ?_
  simp only [go_sem]
  refine bcall (off_dead l at_ t v) (by simp only [go_sem]) (by simp [idsOk, allDead, idsOf, refsIn, AV.refs, AV.refsL]) (by simp only [go_sem]) (by simp only [go_sem]) (by simp only [go_sem]) ?_
  simp only [go_sem]
  refine hk3 _ ?_
  refine aw_cond rfl (fun cc4 => ?_) (fun cc4 => ?_)
  · refine aw_reg rfl fun Khk5 hk5 => ?_
    simp only [go_sem]
    refine hk5 _ ?_
    refine aw_ret ?_
    refine ret_tmp ?_ ?_
    simp only [go_sem]
    simp only [go_sem]
  · cases cc4

set_option maxRecDepth 100000 in
set_option maxHeartbeats 2000000 in
theorem ruint_fail (l : List Int) (at_ : Nat) (most : Int) (hB : isB l) (h : at_ ≤ l.length) (hf : (numR (l.drop at_) most).2.2.1 = false) : ACalls Tryd.prog 72 [.ptr 1000 [], .p (.v (.int .u64 most))] [(1000, .row 167 (.p (rdPV l at_ .nilIface)))] (.p (.v (.int .u64 0))) [(1000, .row 167 (.p (rdPV l at_ (.iface 93 (.int .i64 (numR (l.drop at_) most).2.2.2)))))] := by
  refine acalls_of (fn := Tryd.f72) Tryd.func72 rfl (by decide) (n := 27) rfl (by simp) (by simp) (by simp [idsOf]) (by simp [idsOf]) ?_
  simp only [argT]
  refine aw_reg rfl fun Khk1 hk1 => ?_
  simp only [go_sem]
  refine hk1 _ ?_
  refine aw_seq fun Khk2 hk2 => ?_
  refine aw_reg rfl fun Khk3 hk3 => ?_
  simp only [go_sem]
  refine bcall (off_ok l at_) (by simp only [go_sem]) (by simp [idsOk, allDead, idsOf, refsIn, AV.refs, AV.refsL]) (by simp only [go_sem]) (by simp only [go_sem]) (by simp only [go_sem]) ?_
  simp only [go_sem]
  refine hk3 _ ?_
  refine aw_cond rfl (fun cc4 => ?_) (fun cc4 => ?_)
  · cases cc4
  · refine aw_skip ?_
    refine hk2 _ ?_
    refine aw_reg rfl fun Khk5 hk5 => ?_
    simp only [go_sem]
    refine bcall (number_fail l at_ most hB h hf) (by simp only [go_sem]) (by simp [idsOk, allDead, idsOf, refsIn, AV.refs, AV.refsL]) (by simp only [go_sem]) (by simp only [go_sem]) (by simp only [go_sem]) ?_
    simp only [go_sem]
    refine hk5 _ ?_
    refine aw_seq fun Khk6 hk6 => ?_
    refine aw_reg rfl fun Khk7 hk7 => ?_
    simp only [go_sem]
    refine hk7 _ ?_
    refine aw_cond rfl (fun cc8 => ?_) (fun cc8 => ?_)
    · cases cc8
    · refine aw_skip ?_
      refine hk6 _ ?_
      refine aw_reg rfl fun Khk9 hk9 => ?_
      simp only [go_sem]
      refine hk9 _ ?_
      refine aw_ret ?_
      refine ret_tmp ?_ ?_
      simp only [go_sem]
      simp only [go_sem]

set_option maxRecDepth 100000 in
set_option maxHeartbeats 2000000 in
theorem ruint_ok (l : List Int) (at_ : Nat) (most : Int) (hB : isB l) (h : at_ ≤ l.length) (hl : l.length ≤ 1000000000000000) (hf : (numR (l.drop at_) most).2.2.1 = true) : ACalls Tryd.prog 72 [.ptr 1000 [], .p (.v (.int .u64 most))] [(1000, .row 167 (.p (rdPV l at_ .nilIface)))] (.p (.v (.int .u64 (numR (l.drop at_) most).1))) [(1000, .row 167 (.p (rdPV l (at_ + (numR (l.drop at_) most).2.1) .nilIface)))] := by
  refine acalls_of (fn := Tryd.f72) Tryd.func72 rfl (by decide) (n := 27) rfl (by simp) (by simp) (by simp [idsOf]) (by simp [idsOf]) ?_
  simp only [argT]
  have hD := isB_drop hB at_
  have hmv := num_facts hf hD
  have hdl : (l.drop at_).length = l.length - at_ := List.length_drop
  have emv : IntKind.wrap .i64 ((at_ : Int) + ((numR (l.drop at_) most).2.1 : Int)) = ((at_ + (numR (l.drop at_) most).2.1 : Nat) : Int) := by rw [wrap_i64 (by omega) (by omega)]; omega
  refine aw_reg rfl fun Khk1 hk1 => ?_
  simp only [go_sem]
  refine hk1 _ ?_
  refine aw_seq fun Khk2 hk2 => ?_
  refine aw_reg rfl fun Khk3 hk3 => ?_
  simp only [go_sem]
  refine bcall (off_ok l at_) (by simp only [go_sem]) (by simp [idsOk, allDead, idsOf, refsIn, AV.refs, AV.refsL]) (by simp only [go_sem]) (by simp only [go_sem]) (by simp only [go_sem]) ?_
  simp only [go_sem]
  refine hk3 _ ?_
  refine aw_cond rfl (fun cc4 => ?_) (fun cc4 => ?_)
  · cases cc4
  · refine aw_skip ?_
    refine hk2 _ ?_
    refine aw_reg rfl fun Khk5 hk5 => ?_
    simp only [go_sem]
    refine bcall (number_succ l at_ most hB h hf) (by simp only [go_sem]) (by simp [idsOk, allDead, idsOf, refsIn, AV.refs, AV.refsL]) (by simp only [go_sem]) (by simp only [go_sem]) (by simp only [go_sem]) ?_
    simp only [go_sem]
    refine hk5 _ ?_
    refine aw_seq fun Khk6 hk6 => ?_
    refine aw_reg rfl fun Khk7 hk7 => ?_
    simp only [go_sem]
    refine hk7 _ ?_
    refine aw_cond rfl (fun cc8 => ?_) (fun cc8 => ?_)
    · refine aw_reg_last rfl fun Khk9 hk9 => ?_
      simp only [go_sem, rdPV, emv]
      refine hk9 _ ?_
      refine hk6 _ ?_
      refine aw_reg rfl fun Khk10 hk10 => ?_
      simp only [go_sem, rdPV, emv]
      refine hk10 _ ?_
      refine aw_ret ?_
      refine ret_tmp ?_ ?_
      simp only [go_sem, rdPV, emv]
      simp only [go_sem, rdPV, emv]
    · cases cc8

end Go.Proofs.YtlfincjibiihaaaDoor
end

section
namespace Go.Proofs.YtlfincjibiihaaaDoor
open Go Go.Av Go.Proofs
set_option linter.unusedVariables false
set_option linter.unusedSimpArgs false
set_option linter.unusedSectionVars false
set_option maxRecDepth 100000 in
set_option maxHeartbeats 2000000 in
theorem count_dead (l : List Int) (at_ : Nat) (most : Int) (t : TypeId) (v : Value) : ACalls Tryd.prog 71 [.ptr 1000 [], .p (.v (.int .i64 most))] [(1000, .row 167 (.p (rdPV l at_ (.iface t v))))] (.p (.v (.int .i64 0))) [(1000, .row 167 (.p (rdPV l at_ (.iface t v))))] := by
  refine acalls_of (fn := Tryd.f71) Tryd.func71 rfl (by decide) (n := 44) rfl (by simp) (by simp) (by simp [idsOf]) (by simp [idsOf]) ?_
  simp only [argT]
  refine aw_reg rfl fun Khk1 hk1 => ?_
  simp only [go_sem]
  refine hk1 _ ?_
  refine aw_seq fun Khk2 hk2 => ?_
  refine aw_reg rfl fun Khk3 hk3 => ?_
  simp only [go_sem]
  refine bcall (off_dead l at_ t v) (by simp only [go_sem]) (by simp [idsOk, allDead, idsOf, refsIn, AV.refs, AV.refsL]) (by simp only [go_sem]) (by simp only [go_sem]) (by simp only [go_sem]) ?_
  simp only [go_sem]
  refine hk3 _ ?_
  refine aw_cond rfl (fun cc4 => ?_) (fun cc4 => ?_)
  · refine aw_reg rfl fun Khk5 hk5 => ?_
    simp only [go_sem]
    refine hk5 _ ?_
    refine aw_ret ?_
    refine ret_tmp ?_ ?_
    simp only [go_sem]
    simp only [go_sem]
  · cases cc4

set_option maxRecDepth 100000 in
set_option maxHeartbeats 2000000 in
theorem count_fail (l : List Int) (at_ : Nat) (most : Int) (m0 : 0 ≤ most) (m1 : most ≤ 1000000000000000) (hB : isB l) (h : at_ ≤ l.length) (hf : (numR (l.drop at_) most).2.2.1 = false) : ACalls Tryd.prog 71 [.ptr 1000 [], .p (.v (.int .i64 most))] [(1000, .row 167 (.p (rdPV l at_ .nilIface)))] (.p (.v (.int .i64 0))) [(1000, .row 167 (.p (rdPV l at_ (.iface 93 (.int .i64 (numR (l.drop at_) most).2.2.2)))))] := by
  refine acalls_of (fn := Tryd.f71) Tryd.func71 rfl (by decide) (n := 44) rfl (by simp) (by simp) (by simp [idsOf]) (by simp [idsOf]) ?_
  simp only [argT]
  have em0 : (if most > 0 then most else 0) = most := by split <;> omega
  have em1 : IntKind.wrap .u64 most = most := wrap_u64 (by omega) (by omega)
  refine aw_reg rfl fun Khk1 hk1 => ?_
  simp only [go_sem, em0, em1]
  refine hk1 _ ?_
  refine aw_seq fun Khk2 hk2 => ?_
  refine aw_reg rfl fun Khk3 hk3 => ?_
  simp only [go_sem, em0, em1]
  refine bcall (off_ok l at_) (by simp only [go_sem, em0, em1]) (by simp [idsOk, allDead, idsOf, refsIn, AV.refs, AV.refsL]) (by simp only [go_sem]) (by simp only [go_sem, em0, em1]) (by simp only [go_sem, em0, em1]) ?_
  simp only [go_sem, em0, em1]
  refine hk3 _ ?_
  refine aw_cond rfl (fun cc4 => ?_) (fun cc4 => ?_)
  · cases cc4
  · refine aw_skip ?_
    refine hk2 _ ?_
    refine aw_reg rfl fun Khk5 hk5 => ?_
    simp only [go_sem, em0, em1]
    refine bcall (number_fail l at_ most hB h hf) (by simp only [go_sem, em0, em1]) (by simp [idsOk, allDead, idsOf, refsIn, AV.refs, AV.refsL]) (by simp only [go_sem]) (by simp only [go_sem, em0, em1]) (by simp only [go_sem, em0, em1]) ?_
    simp only [go_sem, em0, em1]
    refine hk5 _ ?_
    refine aw_seq fun Khk6 hk6 => ?_
    refine aw_reg rfl fun Khk7 hk7 => ?_
    simp only [go_sem, em0, em1]
    refine hk7 _ ?_
    refine aw_cond (b := false) (by simp only [go_sem, em0, em1]) (fun h => by cases h) (fun _ => ?_)
    refine aw_skip ?_
    refine hk6 _ ?_
    refine aw_seq fun Khk8 hk8 => ?_
    refine aw_reg rfl fun Khk9 hk9 => ?_
    simp only [go_sem, em0, em1]
    refine hk9 _ ?_
    refine aw_cond rfl (fun cc10 => ?_) (fun cc10 => ?_)
    · cases cc10
    · refine aw_skip ?_
      refine hk8 _ ?_
      refine aw_reg rfl fun Khk11 hk11 => ?_
      simp only [go_sem, em0, em1]
      refine hk11 _ ?_
      refine aw_ret ?_
      refine ret_tmp ?_ ?_
      · simp only [go_sem, em0, em1]
        exact le_int rfl
      · simp only [go_sem, em0, em1]

set_option maxRecDepth 100000 in
set_option maxHeartbeats 2000000 in
theorem count_ok (l : List Int) (at_ : Nat) (most : Int) (m0 : 0 ≤ most) (m1 : most ≤ 1000000000000000) (hB : isB l) (h : at_ ≤ l.length) (hl : l.length ≤ 1000000000000000) (hf : (numR (l.drop at_) most).2.2.1 = true) (hn : (numR (l.drop at_) most).1 ≤ ((l.drop at_).length - (numR (l.drop at_) most).2.1 : Nat)) : ACalls Tryd.prog 71 [.ptr 1000 [], .p (.v (.int .i64 most))] [(1000, .row 167 (.p (rdPV l at_ .nilIface)))] (.p (.v (.int .i64 (numR (l.drop at_) most).1))) [(1000, .row 167 (.p (rdPV l (at_ + (numR (l.drop at_) most).2.1) .nilIface)))] := by
  refine acalls_of (fn := Tryd.f71) Tryd.func71 rfl (by decide) (n := 44) rfl (by simp) (by simp) (by simp [idsOf]) (by simp [idsOf]) ?_
  simp only [argT]
  have hD := isB_drop hB at_
  have hmv := num_facts hf hD
  have hdl : (l.drop at_).length = l.length - at_ := List.length_drop
  have emv : IntKind.wrap .i64 ((at_ : Int) + ((numR (l.drop at_) most).2.1 : Int)) = ((at_ + (numR (l.drop at_) most).2.1 : Nat) : Int) := by rw [wrap_i64 (by omega) (by omega)]; omega
  have em0 : (if most > 0 then most else 0) = most := by split <;> omega
  have em1 : IntKind.wrap .u64 most = most := wrap_u64 (by omega) (by omega)
  have es1 : IntKind.wrap .i64 (((l.drop at_).length : Int) - ((numR (l.drop at_) most).2.1 : Int)) = (((l.drop at_).length - (numR (l.drop at_) most).2.1 : Nat) : Int) := by rw [wrap_i64 (by omega) (by omega)]; omega
  have es2 : IntKind.wrap .u64 (((l.drop at_).length - (numR (l.drop at_) most).2.1 : Nat) : Int) = (((l.drop at_).length - (numR (l.drop at_) most).2.1 : Nat) : Int) := wrap_u64 (by omega) (by omega)
  have es3 : IntKind.wrap .i64 (numR (l.drop at_) most).1 = (numR (l.drop at_) most).1 := wrap_i64 (by omega) (by omega)
  refine aw_reg rfl fun Khk1 hk1 => ?_
  simp only [go_sem, em0, em1, es1, es2, es3]
  refine hk1 _ ?_
  refine aw_seq fun Khk2 hk2 => ?_
  refine aw_reg rfl fun Khk3 hk3 => ?_
  simp only [go_sem, em0, em1, es1, es2, es3]
  refine bcall (off_ok l at_) (by simp only [go_sem, em0, em1, es1, es2, es3]) (by simp [idsOk, allDead, idsOf, refsIn, AV.refs, AV.refsL]) (by simp only [go_sem]) (by simp only [go_sem, em0, em1, es1, es2, es3]) (by simp only [go_sem, em0, em1, es1, es2, es3]) ?_
  simp only [go_sem, em0, em1, es1, es2, es3]
  refine hk3 _ ?_
  refine aw_cond rfl (fun cc4 => ?_) (fun cc4 => ?_)
  · cases cc4
  · refine aw_skip ?_
    refine hk2 _ ?_
    refine aw_reg rfl fun Khk5 hk5 => ?_
    simp only [go_sem, em0, em1, es1, es2, es3]
    refine bcall (number_succ l at_ most hB h hf) (by simp only [go_sem, em0, em1, es1, es2, es3]) (by simp [idsOk, allDead, idsOf, refsIn, AV.refs, AV.refsL]) (by simp only [go_sem]) (by simp only [go_sem, em0, em1, es1, es2, es3]) (by simp only [go_sem, em0, em1, es1, es2, es3]) ?_
    simp only [go_sem, em0, em1, es1, es2, es3]
    refine hk5 _ ?_
    refine aw_seq fun Khk6 hk6 => ?_
    refine aw_reg rfl fun Khk7 hk7 => ?_
    simp only [go_sem, em0, em1, es1, es2, es3]
    refine bcall (rest_calls l at_ .nilIface h) (by simp only [go_sem, em0, em1, es1, es2, es3]) (by simp [idsOk, allDead, idsOf, refsIn, AV.refs, AV.refsL]) (by simp only [go_sem]) (by simp only [go_sem, em0, em1, es1, es2, es3]) (by simp only [go_sem, em0, em1, es1, es2, es3]) ?_
    simp only [go_sem, em0, em1, es1, es2, es3]
    refine hk7 _ ?_
    refine aw_cond rfl (fun cc8 => ?_) (fun cc8 => ?_)
    · exact absurd (of_decide_eq_true cc8) (Int.not_lt.2 hn)
    · refine aw_skip ?_
      refine hk6 _ ?_
      refine aw_seq fun Khk9 hk9 => ?_
      refine aw_reg rfl fun Khk10 hk10 => ?_
      simp only [go_sem, em0, em1, es1, es2, es3]
      refine hk10 _ ?_
      refine aw_cond rfl (fun cc11 => ?_) (fun cc11 => ?_)
      · refine aw_reg_last rfl fun Khk12 hk12 => ?_
        simp only [go_sem, em0, em1, es1, es2, es3, rdPV, emv]
        refine hk12 _ ?_
        refine hk9 _ ?_
        refine aw_reg rfl fun Khk13 hk13 => ?_
        simp only [go_sem, em0, em1, es1, es2, es3, rdPV, emv]
        refine hk13 _ ?_
        refine aw_ret ?_
        refine ret_tmp ?_ ?_
        simp only [go_sem, em0, em1, es1, es2, es3, rdPV, emv]
        simp only [go_sem, em0, em1, es1, es2, es3, rdPV, emv]
      · cases cc11

set_option maxRecDepth 100000 in
set_option maxHeartbeats 2000000 in
theorem done_dead (l : List Int) (at_ : Nat) (t : TypeId) (v : Value) : ACalls Tryd.prog 74 [.ptr 1000 []] [(1000, .row 167 (.p (rdPV l at_ (.iface t v))))] (.p (.v (.iface t v))) [(1000, .row 167 (.p (rdPV l at_ (.iface t v))))] := by
  refine acalls_of (fn := Tryd.f74) Tryd.func74 rfl (by decide) (n := 29) rfl (by simp) (by simp) (by simp [idsOf]) (by simp [idsOf]) ?_
  simp only [argT]
  refine aw_reg rfl fun Khk1 hk1 => ?_
  simp only [go_sem, rdPV]
  refine hk1 _ ?_
  refine aw_seq fun Khk2 hk2 => ?_
  refine aw_block ?_
  refine aw_reg rfl fun Khk3 hk3 => ?_
  simp only [go_sem, rdPV]
  refine hk3 _ ?_
  refine aw_cond rfl (fun cc4 => ?_) (fun cc4 => ?_)
  · cases cc4
  · refine aw_reg rfl fun Khk5 hk5 => ?_
    simp only [go_sem, rdPV]
    refine hk5 _ ?_
    refine aw_cond rfl (fun cc6 => ?_) (fun cc6 => ?_)
    · refine aw_reg rfl fun Khk7 hk7 => ?_
      simp only [go_sem, rdPV]
      refine hk7 _ ?_
      refine aw_ret ?_
      refine ret_tmp ?_ ?_
      simp only [go_sem, rdPV]
      simp only [go_sem, rdPV]
    · cases cc6

set_option maxRecDepth 100000 in
set_option maxHeartbeats 2000000 in
theorem done_end (l : List Int) (at_ : Nat) (h : l.length ≤ at_) : ACalls Tryd.prog 74 [.ptr 1000 []] [(1000, .row 167 (.p (rdPV l at_ .nilIface)))] (.p (.v .nilIface)) [(1000, .row 167 (.p (rdPV l at_ .nilIface)))] := by
  refine acalls_of (fn := Tryd.f74) Tryd.func74 rfl (by decide) (n := 29) rfl (by simp) (by simp) (by simp [idsOf]) (by simp [idsOf]) ?_
  simp only [argT]
  refine aw_reg rfl fun Khk1 hk1 => ?_
  simp only [go_sem, rdPV]
  refine hk1 _ ?_
  refine aw_seq fun Khk2 hk2 => ?_
  refine aw_block ?_
  refine aw_reg rfl fun Khk3 hk3 => ?_
  simp only [go_sem, rdPV]
  refine hk3 _ ?_
  refine aw_cond rfl (fun cc4 => ?_) (fun cc4 => ?_)
  · cases cc4
  · refine aw_reg rfl fun Khk5 hk5 => ?_
    simp only [go_sem, rdPV]
    refine hk5 _ ?_
    refine aw_cond rfl (fun cc6 => ?_) (fun cc6 => ?_)
    · cases cc6
    · refine aw_draw _ (by kernel_rfl) rfl rfl fun Jhk7 hk7 => ?_
      simp only [go_sem, rdPV]
      refine hk7 _ _ _ ⟨by kernel_rfl, by first | exact trivial | (simp only [go_sem, rdPV])⟩ ?_
      refine aw_cond rfl (fun cc8 => ?_) (fun cc8 => ?_)
      · exact absurd (of_decide_eq_true cc8) (by omega)
      · refine aw_skip ?_
        refine hk2 _ ?_
        refine aw_reg rfl fun Khk9 hk9 => ?_
        simp only [go_sem, rdPV]
        refine hk9 _ ?_
        refine aw_ret ?_
        refine ret_tmp ?_ ?_
        simp only [go_sem, rdPV]
        simp only [go_sem, rdPV]

set_option maxRecDepth 100000 in
set_option maxHeartbeats 2000000 in
theorem done_left (l : List Int) (at_ : Nat) (h : at_ < l.length) : ACalls Tryd.prog 74 [.ptr 1000 []] [(1000, .row 167 (.p (rdPV l at_ .nilIface)))] (.p (.v (.iface 93 (.int .i64 3)))) [(1000, .row 167 (.p (rdPV l at_ .nilIface)))] := by
  refine acalls_of (fn := Tryd.f74) Tryd.func74 rfl (by decide) (n := 29) rfl (by simp) (by simp) (by simp [idsOf]) (by simp [idsOf]) ?_
  simp only [argT]
  refine aw_reg rfl fun Khk1 hk1 => ?_
  simp only [go_sem, rdPV]
  refine hk1 _ ?_
  refine aw_seq fun Khk2 hk2 => ?_
  refine aw_block ?_
  refine aw_reg rfl fun Khk3 hk3 => ?_
  simp only [go_sem, rdPV]
  refine hk3 _ ?_
  refine aw_cond rfl (fun cc4 => ?_) (fun cc4 => ?_)
  · cases cc4
  · refine aw_reg rfl fun Khk5 hk5 => ?_
    simp only [go_sem, rdPV]
    refine hk5 _ ?_
    refine aw_cond rfl (fun cc6 => ?_) (fun cc6 => ?_)
    · cases cc6
    · refine aw_draw _ (by kernel_rfl) rfl rfl fun Jhk7 hk7 => ?_
      simp only [go_sem, rdPV]
      refine hk7 _ _ _ ⟨by kernel_rfl, by first | exact trivial | (simp only [go_sem, rdPV])⟩ ?_
      refine aw_cond rfl (fun cc8 => ?_) (fun cc8 => ?_)
      · refine aw_reg rfl fun Khk9 hk9 => ?_
        simp only [go_sem, rdPV]
        refine hk9 _ ?_
        refine aw_ret ?_
        refine ret_tmp ?_ ?_
        simp only [go_sem, rdPV]
        simp only [go_sem, rdPV]
      · exact absurd (of_decide_eq_false cc8) (by omega)

set_option maxRecDepth 100000 in
set_option maxHeartbeats 2000000 in
theorem rhash_dead (l : List Int) (at_ : Nat) (t : TypeId) (v : Value) : ACalls Tryd.prog 73 [.ptr 1000 []] [(1000, .row 167 (.p (rdPV l at_ (.iface t v))))] (.p (.ints .u8 32 (List.replicate 32 0))) [(1000, .row 167 (.p (rdPV l at_ (.iface t v))))] := by
  refine acalls_of (fn := Tryd.f73) Tryd.func73 rfl (by decide) (n := 27) rfl (by simp) (by simp) (by simp [idsOf]) (by simp [idsOf]) ?_
  simp only [argT]
  refine aw_reg rfl fun Khk1 hk1 => ?_
  simp only [go_sem]
  refine hk1 _ ?_
  refine aw_reg rfl fun Khk2 hk2 => ?_
  simp only [go_sem]
  refine hk2 _ ?_
  refine aw_seq fun Khk3 hk3 => ?_
  refine aw_block ?_
  refine aw_reg rfl fun Khk4 hk4 => ?_
  simp only [go_sem]
  refine bcall (off_dead l at_ t v) (by simp only [go_sem]) (by simp [idsOk, allDead, idsOf, refsIn, AV.refs, AV.refsL]) (by simp only [go_sem]) (by simp only [go_sem]) (by simp only [go_sem]) ?_
  simp only [go_sem]
  refine hk4 _ ?_
  refine aw_cond rfl (fun cc5 => ?_) (fun cc5 => ?_)
  · refine aw_skip ?_
    refine hk3 _ ?_
    refine aw_reg rfl fun Khk6 hk6 => ?_
    simp only [go_sem]
    refine hk6 _ ?_
    refine aw_ret ?_
    refine ret_cell rfl rfl rfl ⟨rfl, by simp only [go_sem]⟩ ?_ (by simp only [go_sem])
    simp only [go_sem]
  · cases cc5

set_option maxRecDepth 100000 in
set_option maxHeartbeats 2000000 in
theorem rhash_ok (l : List Int) (at_ : Nat) (h : at_ + 32 ≤ l.length) (hl : l.length ≤ 1000000000000000) : ACalls Tryd.prog 73 [.ptr 1000 []] [(1000, .row 167 (.p (rdPV l at_ .nilIface)))] (.p (.ints .u8 32 ((l.drop at_).take 32))) [(1000, .row 167 (.p (rdPV l (at_ + 32) .nilIface)))] := by
  refine acalls_of (fn := Tryd.f73) Tryd.func73 rfl (by decide) (n := 27) rfl (by simp) (by simp) (by simp [idsOf]) (by simp [idsOf]) ?_
  simp only [argT]
  have h32 : ((l.drop at_).take 32).length = 32 := by rw [List.length_take, List.length_drop]; omega
  have hdl : (l.drop at_).length = l.length - at_ := List.length_drop
  have eh : IntKind.wrap .i64 ((at_ : Int) + ((32 : Nat) : Int)) = (at_ : Int) + ((32 : Nat) : Int) := wrap_i64 (by omega) (by omega)
  refine aw_reg rfl fun Khk1 hk1 => ?_
  simp only [go_sem, rdPV, h32, eh]
  refine hk1 _ ?_
  refine aw_reg rfl fun Khk2 hk2 => ?_
  simp only [go_sem, rdPV, h32, eh]
  refine hk2 _ ?_
  refine aw_seq fun Khk3 hk3 => ?_
  refine aw_block ?_
  refine aw_reg rfl fun Khk4 hk4 => ?_
  simp only [go_sem, rdPV, h32, eh]
  refine bcall (off_ok l at_) (by simp only [go_sem, rdPV, h32, eh]) (by simp [idsOk, allDead, idsOf, refsIn, AV.refs, AV.refsL]) (by simp only [go_sem, rdPV]) (by simp only [go_sem, rdPV, h32, eh]) (by simp only [go_sem, rdPV, h32, eh]) ?_
  simp only [go_sem, rdPV, h32, eh]
  refine hk4 _ ?_
  refine aw_cond rfl (fun cc5 => ?_) (fun cc5 => ?_)
  · cases cc5
  · refine aw_reg rfl fun Khk6 hk6 => ?_
    simp only [go_sem, rdPV, h32, eh]
    refine bcall (rest_calls l at_ .nilIface (by omega)) (by simp only [go_sem, rdPV, h32, eh]) (by simp [idsOk, allDead, idsOf, refsIn, AV.refs, AV.refsL]) (by simp only [go_sem, rdPV]) (by simp only [go_sem, rdPV, h32, eh]) (by simp only [go_sem, rdPV, h32, eh]) ?_
    simp only [go_sem, rdPV, h32, eh]
    refine hk6 _ ?_
    refine aw_cond rfl (fun cc7 => ?_) (fun cc7 => ?_)
    · exact absurd (of_decide_eq_true cc7) (by omega)
    · refine aw_draw_last _ (by kernel_rfl) rfl rfl fun Jhk8 hk8 => ?_
      simp only [go_sem, rdPV, h32, eh]
      refine ccallR (rest_calls l at_ .nilIface (by omega)) (by simp only [go_sem, rdPV, h32, eh]) (by simp [idsOk, allDead, idsOf, refsIn, AV.refs, AV.refsL]) (by simp only [go_sem, rdPV]) (by simp only [go_sem, rdPV, h32, eh]) ?_
      simp only [go_sem, rdPV, h32, eh]
      refine ccust (cust_copy (ty := 73) (c := .p (.ints .u8 32 (List.replicate 32 0))) (c' := .p (.ints .u8 32 ((l.drop at_).take 32))) (id := 3) (path := []) (so := 0) (len := 32) (N := 32) (l := List.replicate 32 0) (us := l.drop at_) (kd := .u8) (tc := []) rfl rfl rfl (.inl ⟨rfl, rfl⟩) ⟨rfl, rfl, rfl⟩ rfl (by rw [h32]; simp [AV.set?]) (by rw [h32]; simp) el26 ld5) (by simp only [go_sem, rdPV, h32, eh]) (by simp only [go_sem, rdPV, h32, eh]) ?_
      simp only [go_sem, rdPV, h32, eh]
      refine hk8 _ _ _ ⟨by kernel_rfl, by first | exact trivial | (simp only [go_sem, rdPV, h32, eh])⟩ ?_
      refine hk3 _ ?_
      refine aw_reg rfl fun Khk9 hk9 => ?_
      simp only [go_sem, rdPV, h32, eh]
      refine hk9 _ ?_
      refine aw_ret ?_
      refine ret_cell rfl rfl rfl ⟨rfl, by simp only [go_sem, rdPV, h32, eh]⟩ ?_ (by simp only [go_sem, rdPV, h32, eh])
      simp only [go_sem, rdPV, h32, eh]

end Go.Proofs.YtlfincjibiihaaaDoor
end

section
namespace Go.Proofs.YtlfincjibiihaaaDoor
open Go Go.Av Go.Proofs
set_option linter.unusedVariables false
set_option linter.unusedSimpArgs false
set_option linter.unusedSectionVars false
set_option maxRecDepth 100000 in
set_option maxHeartbeats 2000000 in
theorem count_long (l : List Int) (at_ : Nat) (most : Int) (m0 : 0 ≤ most) (m1 : most ≤ 1000000000000000) (hB : isB l) (h : at_ ≤ l.length) (hl : l.length ≤ 1000000000000000) (hf : (numR (l.drop at_) most).2.2.1 = true) (hn : ((l.drop at_).length - (numR (l.drop at_) most).2.1 : Nat) < (numR (l.drop at_) most).1) : ACalls Tryd.prog 71 [.ptr 1000 [], .p (.v (.int .i64 most))] [(1000, .row 167 (.p (rdPV l at_ .nilIface)))] (.p (.v (.int .i64 0))) [(1000, .row 167 (.p (rdPV l at_ (.iface 93 (.int .i64 2)))))] := by
  refine acalls_of (fn := Tryd.f71) Tryd.func71 rfl (by decide) (n := 44) rfl (by simp) (by simp) (by simp [idsOf]) (by simp [idsOf]) ?_
  simp only [argT]
  have hD := isB_drop hB at_
  have hmv := num_facts hf hD
  have hdl : (l.drop at_).length = l.length - at_ := List.length_drop
  have emv : IntKind.wrap .i64 ((at_ : Int) + ((numR (l.drop at_) most).2.1 : Int)) = ((at_ + (numR (l.drop at_) most).2.1 : Nat) : Int) := by rw [wrap_i64 (by omega) (by omega)]; omega
  have em0 : (if most > 0 then most else 0) = most := by split <;> omega
  have em1 : IntKind.wrap .u64 most = most := wrap_u64 (by omega) (by omega)
  have es1 : IntKind.wrap .i64 (((l.drop at_).length : Int) - ((numR (l.drop at_) most).2.1 : Int)) = (((l.drop at_).length - (numR (l.drop at_) most).2.1 : Nat) : Int) := by rw [wrap_i64 (by omega) (by omega)]; omega
  have es2 : IntKind.wrap .u64 (((l.drop at_).length - (numR (l.drop at_) most).2.1 : Nat) : Int) = (((l.drop at_).length - (numR (l.drop at_) most).2.1 : Nat) : Int) := wrap_u64 (by omega) (by omega)
  refine aw_reg rfl fun Khk1 hk1 => ?_
  simp only [go_sem, em0, em1, es1, es2]
  refine hk1 _ ?_
  refine aw_seq fun Khk2 hk2 => ?_
  refine aw_reg rfl fun Khk3 hk3 => ?_
  simp only [go_sem, em0, em1, es1, es2]
  refine bcall (off_ok l at_) (by simp only [go_sem, em0, em1, es1, es2]) (by simp [idsOk, allDead, idsOf, refsIn, AV.refs, AV.refsL]) (by simp only [go_sem]) (by simp only [go_sem, em0, em1, es1, es2]) (by simp only [go_sem, em0, em1, es1, es2]) ?_
  simp only [go_sem, em0, em1, es1, es2]
  refine hk3 _ ?_
  refine aw_cond rfl (fun cc4 => ?_) (fun cc4 => ?_)
  · cases cc4
  · refine aw_skip ?_
    refine hk2 _ ?_
    refine aw_reg rfl fun Khk5 hk5 => ?_
    simp only [go_sem, em0, em1, es1, es2]
    refine bcall (number_succ l at_ most hB h hf) (by simp only [go_sem, em0, em1, es1, es2]) (by simp [idsOk, allDead, idsOf, refsIn, AV.refs, AV.refsL]) (by simp only [go_sem]) (by simp only [go_sem, em0, em1, es1, es2]) (by simp only [go_sem, em0, em1, es1, es2]) ?_
    simp only [go_sem, em0, em1, es1, es2]
    refine hk5 _ ?_
    refine aw_seq fun Khk6 hk6 => ?_
    refine aw_reg rfl fun Khk7 hk7 => ?_
    simp only [go_sem, em0, em1, es1, es2]
    refine bcall (rest_calls l at_ .nilIface h) (by simp only [go_sem, em0, em1, es1, es2]) (by simp [idsOk, allDead, idsOf, refsIn, AV.refs, AV.refsL]) (by simp only [go_sem]) (by simp only [go_sem, em0, em1, es1, es2]) (by simp only [go_sem, em0, em1, es1, es2]) ?_
    simp only [go_sem, em0, em1, es1, es2]
    refine hk7 _ ?_
    refine aw_cond rfl (fun cc8 => ?_) (fun cc8 => ?_)
    · refine aw_reg rfl fun Khk9 hk9 => ?_
      simp only [go_sem, em0, em1, es1, es2]
      refine bcall (fail_calls l at_ 2) (by simp only [go_sem, em0, em1, es1, es2]) (by simp [idsOk, allDead, idsOf, refsIn, AV.refs, AV.refsL]) (by simp only [go_sem]) (by simp only [go_sem, em0, em1, es1, es2]) (by simp only [go_sem, em0, em1, es1, es2]) ?_
      simp only [go_sem, em0, em1, es1, es2]
      refine hk9 _ ?_
      refine aw_reg rfl fun Khk10 hk10 => ?_
      simp only [go_sem, em0, em1, es1, es2]
      refine hk10 _ ?_
      refine aw_ret ?_
      refine ret_tmp ?_ ?_
      simp only [go_sem, em0, em1, es1, es2]
      simp only [go_sem, em0, em1, es1, es2]
    · exact absurd hn (of_decide_eq_false cc8)

set_option maxRecDepth 100000 in
set_option maxHeartbeats 2000000 in
theorem rhash_fail (l : List Int) (at_ : Nat) (h : at_ ≤ l.length) (hs : l.length < at_ + 32) : ACalls Tryd.prog 73 [.ptr 1000 []] [(1000, .row 167 (.p (rdPV l at_ .nilIface)))] (.p (.ints .u8 32 (List.replicate 32 0))) [(1000, .row 167 (.p (rdPV l at_ (.iface 93 (.int .i64 12)))))] := by
  refine acalls_of (fn := Tryd.f73) Tryd.func73 rfl (by decide) (n := 27) rfl (by simp) (by simp) (by simp [idsOf]) (by simp [idsOf]) ?_
  simp only [argT]
  have hdl : (l.drop at_).length = l.length - at_ := List.length_drop
  refine aw_reg rfl fun Khk1 hk1 => ?_
  simp only [go_sem]
  refine hk1 _ ?_
  refine aw_reg rfl fun Khk2 hk2 => ?_
  simp only [go_sem]
  refine hk2 _ ?_
  refine aw_seq fun Khk3 hk3 => ?_
  refine aw_block ?_
  refine aw_reg rfl fun Khk4 hk4 => ?_
  simp only [go_sem]
  refine bcall (off_ok l at_) (by simp only [go_sem]) (by simp [idsOk, allDead, idsOf, refsIn, AV.refs, AV.refsL]) (by simp only [go_sem]) (by simp only [go_sem]) (by simp only [go_sem]) ?_
  simp only [go_sem]
  refine hk4 _ ?_
  refine aw_cond rfl (fun cc5 => ?_) (fun cc5 => ?_)
  · cases cc5
  · refine aw_reg rfl fun Khk6 hk6 => ?_
    simp only [go_sem]
    refine bcall (rest_calls l at_ .nilIface h) (by simp only [go_sem]) (by simp [idsOk, allDead, idsOf, refsIn, AV.refs, AV.refsL]) (by simp only [go_sem]) (by simp only [go_sem]) (by simp only [go_sem]) ?_
    simp only [go_sem]
    refine hk6 _ ?_
    refine aw_cond rfl (fun cc7 => ?_) (fun cc7 => ?_)
    · refine aw_reg_last rfl fun Khk8 hk8 => ?_
      simp only [go_sem]
      refine bcall (fail_calls l at_ 12) (by simp only [go_sem]) (by simp [idsOk, allDead, idsOf, refsIn, AV.refs, AV.refsL]) (by simp only [go_sem]) (by simp only [go_sem]) (by simp only [go_sem]) ?_
      simp only [go_sem]
      refine hk8 _ ?_
      refine hk3 _ ?_
      refine aw_reg rfl fun Khk9 hk9 => ?_
      simp only [go_sem]
      refine hk9 _ ?_
      refine aw_ret ?_
      refine ret_cell rfl rfl rfl ⟨rfl, by simp only [go_sem]⟩ ?_ (by simp only [go_sem])
      simp only [go_sem]
    · exact absurd (of_decide_eq_false cc7) (by omega)

/-- What is taken off, and where a reader is then: its place and its error. -/
def mCount (l : List Int) (s : Nat × Int) (most : Int) : Int × Nat × Int :=
  if s.2 ≠ 0 then (0, s) else if (numR (l.drop s.1) most).2.2.1 = false then (0, s.1, (numR (l.drop s.1) most).2.2.2)
  else if ((l.drop s.1).length - (numR (l.drop s.1) most).2.1 : Nat) < (numR (l.drop s.1) most).1 then (0, s.1, 2) else ((numR (l.drop s.1) most).1, s.1 + (numR (l.drop s.1) most).2.1, 0)
def mUint (l : List Int) (s : Nat × Int) (most : Int) : Int × Nat × Int :=
  if s.2 ≠ 0 then (0, s) else if (numR (l.drop s.1) most).2.2.1 = false then (0, s.1, (numR (l.drop s.1) most).2.2.2) else ((numR (l.drop s.1) most).1, s.1 + (numR (l.drop s.1) most).2.1, 0)
def mHash (l : List Int) (s : Nat × Int) : List Int × Nat × Int :=
  if s.2 ≠ 0 then (List.replicate 32 0, s) else if l.length < s.1 + 32 then (List.replicate 32 0, s.1, 12) else ((l.drop s.1).take 32, s.1 + 32, 0)
theorem lowR_ne {b : List Int} {m : Nat} : (lowR b m).2 = 0 ∨ (lowR b m).2 = 12 ∨ (lowR b m).2 = 3 := by
  unfold lowR
  split
  · exact .inr (.inl rfl)
  · split
    · exact .inr (.inr rfl)
    · exact .inl rfl
theorem num_err_ne {rs : List Int} {most : Int} (hf : (numR rs most).2.2.1 = false) : (numR rs most).2.2.2 ≠ 0 := by
  unfold numR at hf ⊢
  split
  · decide
  split
  · decide
  split
  · assumption
  split
  · decide
  · rename_i h1 h2 h3 h4
    rw [if_neg h1, if_neg h2, if_neg h3, if_neg h4] at hf
    cases hf
theorem errV_ne {e : Int} (h : e ≠ 0) : errV e = .iface 93 (.int .i64 e) := if_neg h
theorem errV_0 : errV 0 = .nilIface := rfl
def sOk (l : List Int) (s : Nat × Int) : Prop := isB l ∧ l.length ≤ 1000000000000000 ∧ s.1 ≤ l.length
theorem count_calls (l : List Int) (s : Nat × Int) (most : Int) (m0 : 0 ≤ most) (m1 : most ≤ 1000000000000000) (hs : sOk l s) :
    ACalls Tryd.prog 71 [.ptr 1000 [], .p (.v (.int .i64 most))] [(1000, .row 167 (.p (rdPV l s.1 (errV s.2))))] (.p (.v (.int .i64 (mCount l s most).1))) [(1000, .row 167 (.p (rdPV l (mCount l s most).2.1 (errV (mCount l s most).2.2))))] := by
  obtain ⟨at_, e⟩ := s
  obtain ⟨hB, hl, h⟩ := hs
  simp only at h ⊢
  unfold mCount
  simp only
  split
  · rename_i he
    rw [errV_ne he]
    exact count_dead l at_ most _ _
  · rename_i he
    have he := Decidable.not_not.1 he
    subst he
    split
    · rename_i hf
      rw [errV_ne (num_err_ne hf)]
      exact count_fail l at_ most m0 m1 hB h hf
    · rename_i hf
      have hf : (numR (l.drop at_) most).2.2.1 = true := by simpa using hf
      split
      · rename_i hn
        exact count_long l at_ most m0 m1 hB h hl hf hn
      · rename_i hn
        exact count_ok l at_ most m0 m1 hB h hl hf (by omega)
theorem ruint_calls (l : List Int) (s : Nat × Int) (most : Int) (hs : sOk l s) :
    ACalls Tryd.prog 72 [.ptr 1000 [], .p (.v (.int .u64 most))] [(1000, .row 167 (.p (rdPV l s.1 (errV s.2))))] (.p (.v (.int .u64 (mUint l s most).1))) [(1000, .row 167 (.p (rdPV l (mUint l s most).2.1 (errV (mUint l s most).2.2))))] := by
  obtain ⟨at_, e⟩ := s
  obtain ⟨hB, hl, h⟩ := hs
  simp only at h ⊢
  unfold mUint
  simp only
  split
  · rename_i he
    rw [errV_ne he]
    exact ruint_dead l at_ most _ _
  · rename_i he
    have he := Decidable.not_not.1 he
    subst he
    split
    · rename_i hf
      rw [errV_ne (num_err_ne hf)]
      exact ruint_fail l at_ most hB h hf
    · rename_i hf
      exact ruint_ok l at_ most hB h hl (by simpa using hf)
theorem rhash_calls (l : List Int) (s : Nat × Int) (hs : sOk l s) :
    ACalls Tryd.prog 73 [.ptr 1000 []] [(1000, .row 167 (.p (rdPV l s.1 (errV s.2))))] (.p (.ints .u8 32 (mHash l s).1)) [(1000, .row 167 (.p (rdPV l (mHash l s).2.1 (errV (mHash l s).2.2))))] := by
  obtain ⟨at_, e⟩ := s
  obtain ⟨hB, hl, h⟩ := hs
  simp only at h ⊢
  unfold mHash
  simp only
  split
  · rename_i he
    rw [errV_ne he]
    exact rhash_dead l at_ _ _
  · rename_i he
    have he := Decidable.not_not.1 he
    subst he
    split
    · rename_i hf
      exact rhash_fail l at_ h hf
    · rename_i hf
      exact rhash_ok l at_ (by omega) hl
/-- The error at the end. -/
def mDone (l : List Int) (s : Nat × Int) : Int := if s.2 ≠ 0 then s.2 else if s.1 < l.length then 3 else 0
theorem done_all (l : List Int) (s : Nat × Int) : ACalls Tryd.prog 74 [.ptr 1000 []] [(1000, .row 167 (.p (rdPV l s.1 (errV s.2))))] (.p (.v (errV (mDone l s)))) [(1000, .row 167 (.p (rdPV l s.1 (errV s.2))))] := by
  obtain ⟨at_, e⟩ := s
  simp only
  unfold mDone
  simp only
  split
  · rename_i he
    rw [errV_ne he]
    exact done_dead l at_ _ _
  · rename_i he
    have he := Decidable.not_not.1 he
    subst he
    split
    · rename_i hf
      exact done_left l at_ hf
    · rename_i hf
      exact done_end l at_ (by omega)
theorem sOk_count {l : List Int} {s : Nat × Int} {most : Int} (h : sOk l s) : sOk l (mCount l s most).2 := by
  obtain ⟨hB, hl, h⟩ := h
  unfold mCount
  split
  · exact ⟨hB, hl, h⟩
  split
  · exact ⟨hB, hl, h⟩
  split
  · exact ⟨hB, hl, h⟩
  · rename_i h1 h2 h3
    have := num_facts (most := most) (by simpa using h2) (isB_drop hB s.1)
    have hdl : (l.drop s.1).length = l.length - s.1 := List.length_drop
    exact ⟨hB, hl, by simp only; omega⟩
theorem sOk_uint {l : List Int} {s : Nat × Int} {most : Int} (h : sOk l s) : sOk l (mUint l s most).2 := by
  obtain ⟨hB, hl, h⟩ := h
  unfold mUint
  split
  · exact ⟨hB, hl, h⟩
  split
  · exact ⟨hB, hl, h⟩
  · rename_i h1 h2
    have := num_facts (most := most) (by simpa using h2) (isB_drop hB s.1)
    have hdl : (l.drop s.1).length = l.length - s.1 := List.length_drop
    exact ⟨hB, hl, by simp only; omega⟩
theorem sOk_hash {l : List Int} {s : Nat × Int} (h : sOk l s) : sOk l (mHash l s).2 := by
  obtain ⟨hB, hl, h⟩ := h
  unfold mHash
  split
  · exact ⟨hB, hl, h⟩
  split
  · exact ⟨hB, hl, h⟩
  · exact ⟨hB, hl, by simp only; omega⟩
theorem mCount_rng {l : List Int} {s : Nat × Int} {most : Int} (h : sOk l s) (m0 : 0 ≤ most) : 0 ≤ (mCount l s most).1 ∧ (mCount l s most).1 ≤ most := by
  unfold mCount
  split
  · exact ⟨Int.le_refl _, m0⟩
  split
  · exact ⟨Int.le_refl _, m0⟩
  split
  · exact ⟨Int.le_refl _, m0⟩
  · rename_i h1 h2 h3
    have := num_facts (most := most) (by simpa using h2) (isB_drop h.1 s.1)
    exact ⟨this.1, this.2.1⟩
theorem mUint_rng {l : List Int} {s : Nat × Int} {most : Int} (h : sOk l s) (m0 : 0 ≤ most) : 0 ≤ (mUint l s most).1 ∧ (mUint l s most).1 ≤ most := by
  unfold mUint
  split
  · exact ⟨Int.le_refl _, m0⟩
  split
  · exact ⟨Int.le_refl _, m0⟩
  · rename_i h1 h2
    have := num_facts (most := most) (by simpa using h2) (isB_drop h.1 s.1)
    exact ⟨this.1, this.2.1⟩
theorem mHash_len {l : List Int} {s : Nat × Int} : (mHash l s).1.length = 32 := by
  unfold mHash
  split
  · simp
  split
  · simp
  · rename_i h1 h2
    simp only [List.length_take, List.length_drop]
    omega

end Go.Proofs.YtlfincjibiihaaaDoor
end

section
namespace Go.Proofs.YtlfincjibiihaaaDoor
open Go Go.Av Go.Proofs
set_option linter.unusedVariables false
set_option linter.unusedSimpArgs false
set_option linter.unusedSectionVars false
/-- What is read of a condition. -/
def mKeys (l : List Int) : Nat → Nat × Int → List Int × Nat × Int
  | 0, s => ([], s)
  | n + 1, s => ((mKeys l n s).1 ++ [(mUint l (mKeys l n s).2 16).1], (mUint l (mKeys l n s).2 16).2)
def mBr (l : List Int) (s : Nat × Int) : Br × Nat × Int :=
  let n := mCount l s 16
  let k := mKeys l n.1.toNat n.2
  let h := mHash l k.2
  let a := mUint l h.2 1099511627776
  let o := mUint l a.2 65536
  (⟨k.1, h.1, a.1, o.1⟩, o.2)
def mBrs (l : List Int) : Nat → Nat × Int → List Br × Nat × Int
  | 0, s => ([], s)
  | n + 1, s => ((mBrs l n s).1 ++ [(mBr l (mBrs l n s).2).1], (mBr l (mBrs l n s).2).2)
def mDec (l : List Int) : List Br × Int :=
  let n := mCount l (0, 0) 8
  let r := mBrs l n.1.toNat n.2
  if mDone l r.2 ≠ 0 then ([], 3) else if condOk r.1 = false then ([], 3) else (r.1, 0)
theorem mKeys_len {l : List Int} {s : Nat × Int} : ∀ n, (mKeys l n s).1.length = n
  | 0 => rfl
  | n + 1 => by simp only [mKeys, List.length_append, List.length_cons, List.length_nil, mKeys_len n]
theorem mBrs_len {l : List Int} {s : Nat × Int} : ∀ n, (mBrs l n s).1.length = n
  | 0 => rfl
  | n + 1 => by simp only [mBrs, List.length_append, List.length_cons, List.length_nil, mBrs_len n]
theorem sOk_keys {l : List Int} {s : Nat × Int} (h : sOk l s) : ∀ n, sOk l (mKeys l n s).2
  | 0 => h
  | n + 1 => sOk_uint (sOk_keys h n)
theorem sOk_br {l : List Int} {s : Nat × Int} (h : sOk l s) : sOk l (mBr l s).2 := sOk_uint (sOk_uint (sOk_hash (sOk_keys (sOk_count h) _)))
theorem sOk_brs {l : List Int} {s : Nat × Int} (h : sOk l s) : ∀ n, sOk l (mBrs l n s).2
  | 0 => h
  | n + 1 => sOk_br (sOk_brs h n)
theorem mBrs_1 {l : List Int} {s : Nat × Int} : mBrs l 1 s = ([(mBr l s).1], (mBr l s).2) := rfl
theorem mBrs_s {l : List Int} {s : Nat × Int} {n : Nat} : mBrs l (n + 1) s = ((mBrs l n s).1 ++ [(mBr l (mBrs l n s).2).1], (mBr l (mBrs l n s).2).2) := rfl
theorem mBr_keys {l : List Int} {s : Nat × Int} (h : sOk l s) : (mBr l s).1.keys.length ≤ 16 := by
  have := mCount_rng (most := 16) h (by omega)
  simp only [mBr, mKeys_len]
  omega
theorem mBrs_keys {l : List Int} {s : Nat × Int} (h : sOk l s) : ∀ n, ∀ b ∈ (mBrs l n s).1, b.keys.length ≤ 16
  | 0, b, hb => by cases hb
  | n + 1, b, hb => by
    rw [mBrs_s] at hb
    rcases List.mem_append.1 hb with e | e
    · exact mBrs_keys h n b e
    · have : b = (mBr l (mBrs l n s).2).1 := by simpa using e
      rw [this]
      exact mBr_keys (sOk_brs h n)
/-- A branch whose keys may be a nil slice. -/
def kz : List Int → PV
  | [] => .v (.slice none 0 0)
  | k :: l => .sl 1 (I k :: l.map I)
def brZ (b : Br) : PV := .st [kz b.keys, .ints .u8 32 b.lock, .v (.int .i64 b.after), .v (.int .i64 b.older)]
theorem kz_ne {l : List Int} (h : 0 < l.length) : kz l = .sl 1 (l.map I) := by
  cases l with
  | nil => cases h
  | cons a l => rfl
theorem kz_le (l : List Int) : PV.leP (kz l) (.sl 1 (l.map I)) := by
  cases l with
  | nil => exact .nil 1
  | cons a l => exact .refl _
theorem brZ_le (b : Br) : PV.leP (brZ b) (brPV b) := .st rfl fun i f g hf hg => by
  match i, hf, hg with
  | 0, hf, hg => cases hf; cases hg; exact kz_le _
  | 1, hf, hg => cases hf; cases hg; exact .refl _
  | 2, hf, hg => cases hf; cases hg; exact .refl _
  | 3, hf, hg => cases hf; cases hg; exact .refl _
  | _ + 4, hf, _ => simp at hf
theorem le_brs {t : Nat} {c : List Br} : AV.le (.st [.slt t 35 (c.map brZ)]) (.p (condPV c)) :=
  .inr (.inr (.inr (.inr ⟨.st [.sl 35 (c.map brZ)], condPV c, rfl, .st rfl fun i f g hf hg => by
    match i, hf, hg with
    | 0, hf, hg =>
      cases hf; cases hg
      refine .sl (by simp) fun i f g hf hg => ?_
      rw [List.getElem?_map] at hf hg
      cases hc : c[i]? with
      | none => simp [hc] at hf
      | some b =>
        simp [hc] at hf hg
        subst hf; subst hg
        exact brZ_le b
    | _ + 1, hf, _ => simp at hf, rfl⟩)))
theorem le_brs0 : AV.le (.p (.st [.v (.slice none 0 0)])) (.p (condPV [])) := le_nil1
/-- A condition that grows from nothing; a branch whose keys do. -/
def accR (id ty tok k : Nat) : Nat → List PV → Nat → List (Nat × AObj) → List (Nat × AObj)
  | 0, _, _, r => (id, .row ty (.p (.st [.v (.slice none 0 0)]))) :: r
  | _ + 1, l, n, r => (id, .row ty (.st [.slt tok k l])) :: (tok, .tail n) :: r
@[go_sem] theorem accR_0 (id ty tok k n : Nat) (l : List PV) (r : List (Nat × AObj)) : accR id ty tok k 0 l n r = (id, .row ty (.p (.st [.v (.slice none 0 0)]))) :: r := rfl
@[go_sem] theorem accR_s (id ty tok k i n : Nat) (l : List PV) (r : List (Nat × AObj)) : accR id ty tok k (i + 1) l n r = (id, .row ty (.st [.slt tok k l])) :: (tok, .tail n) :: r := rfl
def keyR (id ty tok : Nat) : Nat → List PV → Nat → List (Nat × AObj) → List (Nat × AObj)
  | 0, _, _, r => (id, .row ty (.p (.st [.v (.slice none 0 0), .ints .u8 32 (List.replicate 32 0), .v (.int .i64 0), .v (.int .i64 0)]))) :: r
  | _ + 1, l, n, r => (id, .row ty (.st [.slt tok 1 l, .p (.ints .u8 32 (List.replicate 32 0)), .p (.v (.int .i64 0)), .p (.v (.int .i64 0))])) :: (tok, .tail n) :: r
@[go_sem] theorem keyR_0 (id ty tok n : Nat) (l : List PV) (r : List (Nat × AObj)) : keyR id ty tok 0 l n r = (id, .row ty (.p (.st [.v (.slice none 0 0), .ints .u8 32 (List.replicate 32 0), .v (.int .i64 0), .v (.int .i64 0)]))) :: r := rfl
@[go_sem] theorem keyR_s (id ty tok i n : Nat) (l : List PV) (r : List (Nat × AObj)) : keyR id ty tok (i + 1) l n r = (id, .row ty (.st [.slt tok 1 l, .p (.ints .u8 32 (List.replicate 32 0)), .p (.v (.int .i64 0)), .p (.v (.int .i64 0))])) :: (tok, .tail n) :: r := rfl
/-- The reader's contracts under the number that its user has. -/
theorem read1 (l : List Int) : ACalls Tryd.prog 70 [.p (.sl 1 (l.map B))] [] (.ptr 1 []) [(1, .row 167 (.p (rdPV l 0 .nilIface)))] := by
  have := (read_calls l).swap 5 1
  simpa [AV.ren, AV.renL, renH, AObj.ren, swp] using this
theorem count1 (l : List Int) (s : Nat × Int) (most : Int) (m0 : 0 ≤ most) (m1 : most ≤ 1000000000000000) (hs : sOk l s) :
    ACalls Tryd.prog 71 [.ptr 1 [], .p (.v (.int .i64 most))] [(1, .row 167 (.p (rdPV l s.1 (errV s.2))))] (.p (.v (.int .i64 (mCount l s most).1))) [(1, .row 167 (.p (rdPV l (mCount l s most).2.1 (errV (mCount l s most).2.2))))] := by
  have := (count_calls l s most m0 m1 hs).swap 1000 1
  simpa only [List.map_cons, List.map_nil, AV.ren, AV.renL, renH, AObj.ren, swp, if_true] using this
theorem count0 (l : List Int) (h : isB l) (hl : l.length ≤ 1000000000000000) :
    ACalls Tryd.prog 71 [.ptr 1 [], .p (.v (.int .i64 8))] [(1, .row 167 (.p (rdPV l 0 .nilIface)))] (.p (.v (.int .i64 (mCount l (0, 0) 8).1))) [(1, .row 167 (.p (rdPV l (mCount l (0, 0) 8).2.1 (errV (mCount l (0, 0) 8).2.2))))] := count1 l (0, 0) 8 (by omega) (by omega) ⟨h, hl, Nat.zero_le _⟩
theorem ruint1 (l : List Int) (s : Nat × Int) (most : Int) (hs : sOk l s) :
    ACalls Tryd.prog 72 [.ptr 1 [], .p (.v (.int .u64 most))] [(1, .row 167 (.p (rdPV l s.1 (errV s.2))))] (.p (.v (.int .u64 (mUint l s most).1))) [(1, .row 167 (.p (rdPV l (mUint l s most).2.1 (errV (mUint l s most).2.2))))] := by
  have := (ruint_calls l s most hs).swap 1000 1
  simpa only [List.map_cons, List.map_nil, AV.ren, AV.renL, renH, AObj.ren, swp, if_true] using this
theorem rhash1 (l : List Int) (s : Nat × Int) (hs : sOk l s) :
    ACalls Tryd.prog 73 [.ptr 1 []] [(1, .row 167 (.p (rdPV l s.1 (errV s.2))))] (.p (.ints .u8 32 (mHash l s).1)) [(1, .row 167 (.p (rdPV l (mHash l s).2.1 (errV (mHash l s).2.2))))] := by
  have := (rhash_calls l s hs).swap 1000 1
  simpa only [List.map_cons, List.map_nil, AV.ren, AV.renL, renH, AObj.ren, swp, if_true] using this
theorem done1 (l : List Int) (s : Nat × Int) (e : Int) (he : mDone l s = e) : ACalls Tryd.prog 74 [.ptr 1 []] [(1, .row 167 (.p (rdPV l s.1 (errV s.2))))] (.p (.v (errV e))) [(1, .row 167 (.p (rdPV l s.1 (errV s.2))))] := by
  have := (done_all l s).swap 1000 1
  rw [he] at this
  simpa only [List.map_cons, List.map_nil, AV.ren, AV.renL, renH, AObj.ren, swp, if_true] using this
theorem done1_nil (l : List Int) (s : Nat × Int) (he : mDone l s = 0) : ACalls Tryd.prog 74 [.ptr 1 []] [(1, .row 167 (.p (rdPV l s.1 (errV s.2))))] (.p (.v .nilIface)) [(1, .row 167 (.p (rdPV l s.1 (errV s.2))))] := done1 l s 0 he
theorem done1_ne (l : List Int) (s : Nat × Int) (he : mDone l s ≠ 0) : ACalls Tryd.prog 74 [.ptr 1 []] [(1, .row 167 (.p (rdPV l s.1 (errV s.2))))] (.p (.v (.iface 93 (.int .i64 (mDone l s))))) [(1, .row 167 (.p (rdPV l s.1 (errV s.2))))] := by
  have := done1 l s _ rfl
  rwa [errV_ne he] at this

end Go.Proofs.YtlfincjibiihaaaDoor
end

section
namespace Go.Proofs.YtlfincjibiihaaaDoor
open Go Go.Av Go.Proofs
set_option linter.unusedVariables false
set_option linter.unusedSimpArgs false
set_option linter.unusedSectionVars false
set_option maxRecDepth 100000 in
set_option maxHeartbeats 2000000 in
theorem decode_calls (l : List Int) (hB : isB l) (hl : l.length ≤ 1000000000000000) : ACalls Tryd.prog 33 [.p (.sl 1 (l.map B))] [] (.tup [.p (condPV (mDec l).1), .p (.v (errV (mDec l).2))]) [] := by
  refine acalls_of (fn := Tryd.f33) Tryd.func33 rfl (by decide) (n := 55) rfl (by simp) (by simp) (by simp [idsOf]) (by simp [idsOf]) ?_
  simp only [argT]
  have hs00 : sOk l (0, 0) := ⟨hB, hl, Nat.zero_le _⟩
  have hn := mCount_rng (most := 8) hs00 (by omega)
  have hs0 : sOk l (mCount l (0, 0) 8).2 := sOk_count hs00
  obtain ⟨N, hN⟩ : ∃ N : Nat, (mCount l (0, 0) 8).1 = N := ⟨(mCount l (0, 0) 8).1.toNat, by omega⟩
  have hN8 : N ≤ 8 := by omega
  refine aw_reg rfl fun Khk1 hk1 => ?_
  simp only [go_sem, I, hN]
  refine hk1 _ ?_
  refine aw_reg rfl fun Khk2 hk2 => ?_
  simp only [go_sem, I, hN]
  refine bcall (read1 l) (by simp only [go_sem, I, hN]) (by simp [idsOk, allDead, idsOf, refsIn, AV.refs, AV.refsL, rdPV]) (by simp only [go_sem]) (by simp only [go_sem, I, hN]) (by simp only [go_sem, I, hN]) ?_
  simp only [go_sem, I, hN]
  refine hk2 _ ?_
  refine aw_reg rfl fun Khk3 hk3 => ?_
  simp only [go_sem, I, hN]
  refine hk3 _ ?_
  refine aw_seq fun Khk4 hk4 => ?_
  refine aw_reg rfl fun Khk5 hk5 => ?_
  simp only [go_sem, I, hN]
  refine bcall (count0 l hB hl) (by simp only [go_sem, I, hN]) (by simp [idsOk, allDead, idsOf, refsIn, AV.refs, AV.refsL, rdPV]) (by simp only [go_sem]) (by simp only [go_sem, I, hN]) (by simp only [go_sem, I, hN]) ?_
  simp only [go_sem, I, hN]
  refine hk5 _ ?_
  refine aw_block ?_
  refine aw_loop (α := {i : Nat // i ≤ N})
    (fun x => ⟨55, [(11, .p (.v (.int .i64 x.1))), (10, .p (.v (.int .i64 N))), (5, .ptr 5 []), (4, .ptr 1 []), (2, .ptr 2 []), (3, .p (.v .nilIface))], accR 5 35 41 35 x.1 ((mBrs l x.1 (mCount l (0, 0) 8).2).1.map brZ) x.1 [(1, .row 167 (.p (rdPV l (mBrs l x.1 (mCount l (0, 0) 8).2).2.1 (errV (mBrs l x.1 (mCount l (0, 0) 8).2).2.2)))), (2, .row 35 (.p (.st [.v (.slice none 0 0)])))]⟩)
    (fun x => N - x.1) ⟨0, by omega⟩ (imp_less (by simp only [go_sem, I, hN]; simp only [mBrs, and_self])) fun ⟨i, hi⟩ => ?_
  rcases i with _ | i
  · have hz : ((0 : Nat) : Int) = 0 := rfl
    refine aw_reg rfl fun Khk6 hk6 => ?_
    simp only [go_sem, I, hN, hz]
    refine hk6 _ ?_
    refine aw_seq fun Khk7 hk7 => ?_
    refine aw_cond rfl (fun cc8 => ?_) (fun cc8 => ?_)
    · have hlt : 0 < N := by simpa using cc8
      generalize hq : (mBrs l 0 (mCount l (0, 0) 8).2).2 = q
      have hsq : sOk l q := by rw [← hq]; exact sOk_brs hs0 _
      have hk := mCount_rng (most := 16) hsq (by omega)
      obtain ⟨K, hK⟩ : ∃ K : Nat, (mCount l q 16).1 = K := ⟨(mCount l q 16).1.toNat, by omega⟩
      have hK16 : K ≤ 16 := by omega
      refine aw_skip ?_
      refine hk7 _ ?_
      refine aw_seq fun Khk9 hk9 => ?_
      refine aw_block ?_
      refine aw_reg rfl fun Khk10 hk10 => ?_
      simp only [go_sem, I, hN, hz, hlt, hK]
      refine hk10 _ ?_
      refine aw_seq fun Khk11 hk11 => ?_
      refine aw_reg rfl fun Khk12 hk12 => ?_
      simp only [go_sem, I, hN, hz, hlt, hK]
      refine bcall (count1 l q 16 (by omega) (by omega) hsq) (by simp only [go_sem, I, hN, hz, hlt, hK]) (by simp [idsOk, allDead, idsOf, refsIn, AV.refs, AV.refsL, rdPV]) (by simp only [go_sem]) (by simp only [go_sem, I, hN, hz, hlt, hK]) (by simp only [go_sem, I, hN, hz, hlt, hK]) ?_
      simp only [go_sem, I, hN, hz, hlt, hK]
      refine hk12 _ ?_
      refine aw_block ?_
      refine aw_loop (α := {j : Nat // j ≤ K})
        (fun x => ⟨55, [(15, .p (.v (.int .i64 x.1))), (14, .p (.v (.int .i64 K))), (6, .ptr 6 []), (11, .p (.v (.int .i64 ((0 : Nat) : Int)))), (10, .p (.v (.int .i64 N))), (5, .ptr 5 []), (4, .ptr 1 []), (2, .ptr 2 []), (3, .p (.v .nilIface))], keyR 6 89 23 x.1 ((mKeys l x.1 (mCount l q 16).2).1.map I) x.1 [(1, .row 167 (.p (rdPV l (mKeys l x.1 (mCount l q 16).2).2.1 (errV (mKeys l x.1 (mCount l q 16).2).2.2)))), (5, .row 35 (.p (.st [.v (.slice none 0 0)]))), (2, .row 35 (.p (.st [.v (.slice none 0 0)])))]⟩)
        (fun x => K - x.1) ⟨0, by omega⟩ (imp_less (by simp only [go_sem, I, hN, hz, hlt, hK]; simp only [mKeys, and_self])) fun ⟨j, hj⟩ => ?_
      rcases j with _ | j
      · have hz1 : ((0 : Nat) : Int) = 0 := rfl
        have hsk : sOk l (mKeys l 0 (mCount l q 16).2).2 := sOk_keys (sOk_count hsq) 0
        have hv := mUint_rng (most := 16) hsk (by omega)
        have ev : IntKind.wrap .i64 (mUint l (mKeys l 0 (mCount l q 16).2).2 16).1 = (mUint l (mKeys l 0 (mCount l q 16).2).2 16).1 := wrap_i64 (by omega) (by omega)
        have hkl : (mKeys l 0 (mCount l q 16).2).1.length = 0 := mKeys_len 0
        refine aw_reg rfl fun Khk13 hk13 => ?_
        simp only [go_sem, I, hN, hz, hlt, hK, hz1, ev, hkl]
        refine hk13 _ ?_
        refine aw_seq fun Khk14 hk14 => ?_
        refine aw_cond rfl (fun cc15 => ?_) (fun cc15 => ?_)
        · have hjt : 0 < K := by simpa using cc15
          refine aw_skip ?_
          refine hk14 _ ?_
          refine aw_seq fun Khk16 hk16 => ?_
          refine aw_block ?_
          refine aw_draw_last _ (by kernel_rfl) rfl rfl fun Jhk17 hk17 => ?_
          simp only [go_sem, I, hN, hz, hlt, hK, hz1, ev, hkl]
          refine ccall (ruint1 l (mKeys l 0 (mCount l q 16).2).2 16 hsk) (by simp only [go_sem, I, hN, hz, hlt, hK, hz1, ev, hkl]) (by simp [idsOk, allDead, idsOf, refsIn, AV.refs, AV.refsL, rdPV]) (by simp only [go_sem]) (by simp only [go_sem, I, hN, hz, hlt, hK, hz1, ev, hkl]) ?_
          simp only [go_sem, I, hN, hz, hlt, hK, hz1, ev, hkl]
          refine hk17 _ _ _ ⟨by kernel_rfl, by first | exact trivial | (simp only [go_sem, I, hN, hz, hlt, hK, hz1, ev, hkl])⟩ ?_
          refine hk16 _ ?_
          refine aw_reg_last rfl fun Khk18 hk18 => ?_
          simp only [go_sem, I, hN, hz, hlt, hK, hz1, ev, hkl]
          refine hk18 _ ?_
          refine ⟨⟨0 + 1, hjt⟩, imp_less (by simp only [go_sem, I, hN, hz, hlt, hK, hz1, ev, hkl]; simp only [mKeys, List.map_append, List.map_cons, List.map_nil, List.nil_append, I, true_and, and_true]; exact le_int rfl), by simp only; omega⟩
        · have hje : K = 0 := by simp at cc15; omega
          have hsh := sOk_hash hsk
          have hsa := sOk_uint (most := 1099511627776) hsh
          have ha := mUint_rng (most := 1099511627776) hsh (by omega)
          have ho := mUint_rng (most := 65536) hsa (by omega)
          have ea : IntKind.wrap .i64 (mUint l (mHash l (mKeys l 0 (mCount l q 16).2).2).2 1099511627776).1 = (mUint l (mHash l (mKeys l 0 (mCount l q 16).2).2).2 1099511627776).1 := wrap_i64 (by omega) (by omega)
          have eo : IntKind.wrap .i64 (mUint l (mUint l (mHash l (mKeys l 0 (mCount l q 16).2).2).2 1099511627776).2 65536).1 = (mUint l (mUint l (mHash l (mKeys l 0 (mCount l q 16).2).2).2 1099511627776).2 65536).1 := wrap_i64 (by omega) (by omega)
          refine aw_exit ?_
          refine hk11 _ ?_
          refine aw_reg rfl fun Khk19 hk19 => ?_
          simp only [go_sem, I, hN, hz, hlt, hK, hz1, ev, hkl, ea, eo]
          refine bcall (rhash1 l (mKeys l 0 (mCount l q 16).2).2 hsk) (by simp only [go_sem, I, hN, hz, hlt, hK, hz1, ev, hkl, ea, eo]) (by simp [idsOk, allDead, idsOf, refsIn, AV.refs, AV.refsL, rdPV]) (by simp only [go_sem]) (by simp only [go_sem, I, hN, hz, hlt, hK, hz1, ev, hkl, ea, eo]) (by simp only [go_sem, I, hN, hz, hlt, hK, hz1, ev, hkl, ea, eo]) ?_
          simp only [go_sem, I, hN, hz, hlt, hK, hz1, ev, hkl, ea, eo]
          refine bcall (ruint1 l (mHash l (mKeys l 0 (mCount l q 16).2).2).2 1099511627776 hsh) (by simp only [go_sem, I, hN, hz, hlt, hK, hz1, ev, hkl, ea, eo]) (by simp [idsOk, allDead, idsOf, refsIn, AV.refs, AV.refsL, rdPV]) (by simp only [go_sem]) (by simp only [go_sem, I, hN, hz, hlt, hK, hz1, ev, hkl, ea, eo]) (by simp only [go_sem, I, hN, hz, hlt, hK, hz1, ev, hkl, ea, eo]) ?_
          simp only [go_sem, I, hN, hz, hlt, hK, hz1, ev, hkl, ea, eo]
          refine bcall (ruint1 l (mUint l (mHash l (mKeys l 0 (mCount l q 16).2).2).2 1099511627776).2 65536 hsa) (by simp only [go_sem, I, hN, hz, hlt, hK, hz1, ev, hkl, ea, eo]) (by simp [idsOk, allDead, idsOf, refsIn, AV.refs, AV.refsL, rdPV]) (by simp only [go_sem]) (by simp only [go_sem, I, hN, hz, hlt, hK, hz1, ev, hkl, ea, eo]) (by simp only [go_sem, I, hN, hz, hlt, hK, hz1, ev, hkl, ea, eo]) ?_
          simp only [go_sem, I, hN, hz, hlt, hK, hz1, ev, hkl, ea, eo]
          refine hk19 _ ?_
          refine aw_reg_last rfl fun Khk20 hk20 => ?_
          simp only [go_sem, I, hN, hz, hlt, hK, hz1, ev, hkl, ea, eo]
          refine hk20 _ ?_
          refine hk9 _ ?_
          refine aw_reg_last rfl fun Khk21 hk21 => ?_
          simp only [go_sem, I, hN, hz, hlt, hK, hz1, ev, hkl, ea, eo]
          refine hk21 _ ?_
          have ebr : mBr l q = (⟨(mKeys l 0 (mCount l q 16).2).1, (mHash l (mKeys l 0 (mCount l q 16).2).2).1, (mUint l (mHash l (mKeys l 0 (mCount l q 16).2).2).2 1099511627776).1, (mUint l (mUint l (mHash l (mKeys l 0 (mCount l q 16).2).2).2 1099511627776).2 65536).1⟩, (mUint l (mUint l (mHash l (mKeys l 0 (mCount l q 16).2).2).2 1099511627776).2 65536).2) := by simp only [mBr, hK, Int.toNat_natCast, hje]
          have hq0 : (mCount l (0, 0) 8).2 = q := hq
          refine ⟨⟨0 + 1, hlt⟩, imp_less (by simp only [go_sem, I, hN, hz, hlt, hK, hz1, ev, hkl, ea, eo]; simp only [mBrs_1, hq0, ebr, brZ, mKeys, kz, List.map_cons, List.map_nil, true_and, and_true]; exact le_int rfl), by simp only; omega⟩
      · simp only [keyR_s]
        generalize hg : j + 1 = g at hj ⊢
        have hsk : sOk l (mKeys l g (mCount l q 16).2).2 := sOk_keys (sOk_count hsq) g
        have hv := mUint_rng (most := 16) hsk (by omega)
        have ev : IntKind.wrap .i64 (mUint l (mKeys l g (mCount l q 16).2).2 16).1 = (mUint l (mKeys l g (mCount l q 16).2).2 16).1 := wrap_i64 (by omega) (by omega)
        have hkl : (mKeys l g (mCount l q 16).2).1.length = g := mKeys_len g
        refine aw_reg rfl fun Khk22 hk22 => ?_
        simp only [go_sem, I, hN, hz, hlt, hK, ev, hkl]
        refine hk22 _ ?_
        refine aw_seq fun Khk23 hk23 => ?_
        refine aw_cond rfl (fun cc24 => ?_) (fun cc24 => ?_)
        · have hjt : g < K := by simpa using cc24
          refine aw_skip ?_
          refine hk23 _ ?_
          refine aw_seq fun Khk25 hk25 => ?_
          refine aw_block ?_
          refine aw_draw_last _ (by kernel_rfl) rfl rfl fun Jhk26 hk26 => ?_
          simp only [go_sem, I, hN, hz, hlt, hK, ev, hkl]
          refine ccall (ruint1 l (mKeys l g (mCount l q 16).2).2 16 hsk) (by simp only [go_sem, I, hN, hz, hlt, hK, ev, hkl]) (by simp [idsOk, allDead, idsOf, refsIn, AV.refs, AV.refsL, rdPV]) (by simp only [go_sem]) (by simp only [go_sem, I, hN, hz, hlt, hK, ev, hkl]) ?_
          simp only [go_sem, I, hN, hz, hlt, hK, ev, hkl]
          refine ⟨by omega, ?_⟩
          refine hk26 _ _ _ ⟨by kernel_rfl, by first | exact trivial | (simp only [go_sem, I, hN, hz, hlt, hK, ev, hkl])⟩ ?_
          refine hk25 _ ?_
          refine aw_reg_last rfl fun Khk27 hk27 => ?_
          simp only [go_sem, I, hN, hz, hlt, hK, ev, hkl]
          refine hk27 _ ?_
          refine ⟨⟨g + 1, hjt⟩, imp_less (by simp only [go_sem, I, hN, hz, hlt, hK, ev, hkl]; simp only [mKeys, List.map_append, List.map_cons, List.map_nil, List.nil_append, I, true_and, and_true]; exact le_int (wrap_i64 (by omega) (by omega))), by simp only; omega⟩
        · have hje : g = K := by simp at cc24; omega
          have hsh := sOk_hash hsk
          have hsa := sOk_uint (most := 1099511627776) hsh
          have ha := mUint_rng (most := 1099511627776) hsh (by omega)
          have ho := mUint_rng (most := 65536) hsa (by omega)
          have ea : IntKind.wrap .i64 (mUint l (mHash l (mKeys l g (mCount l q 16).2).2).2 1099511627776).1 = (mUint l (mHash l (mKeys l g (mCount l q 16).2).2).2 1099511627776).1 := wrap_i64 (by omega) (by omega)
          have eo : IntKind.wrap .i64 (mUint l (mUint l (mHash l (mKeys l g (mCount l q 16).2).2).2 1099511627776).2 65536).1 = (mUint l (mUint l (mHash l (mKeys l g (mCount l q 16).2).2).2 1099511627776).2 65536).1 := wrap_i64 (by omega) (by omega)
          refine aw_exit ?_
          refine hk11 _ ?_
          refine aw_reg rfl fun Khk28 hk28 => ?_
          simp only [go_sem, I, hN, hz, hlt, hK, ev, hkl, ea, eo]
          refine bcall (rhash1 l (mKeys l g (mCount l q 16).2).2 hsk) (by simp only [go_sem, I, hN, hz, hlt, hK, ev, hkl, ea, eo]) (by simp [idsOk, allDead, idsOf, refsIn, AV.refs, AV.refsL, rdPV]) (by simp only [go_sem]) (by simp only [go_sem, I, hN, hz, hlt, hK, ev, hkl, ea, eo]) (by simp only [go_sem, I, hN, hz, hlt, hK, ev, hkl, ea, eo]) ?_
          simp only [go_sem, I, hN, hz, hlt, hK, ev, hkl, ea, eo]
          refine bcall (ruint1 l (mHash l (mKeys l g (mCount l q 16).2).2).2 1099511627776 hsh) (by simp only [go_sem, I, hN, hz, hlt, hK, ev, hkl, ea, eo]) (by simp [idsOk, allDead, idsOf, refsIn, AV.refs, AV.refsL, rdPV]) (by simp only [go_sem]) (by simp only [go_sem, I, hN, hz, hlt, hK, ev, hkl, ea, eo]) (by simp only [go_sem, I, hN, hz, hlt, hK, ev, hkl, ea, eo]) ?_
          simp only [go_sem, I, hN, hz, hlt, hK, ev, hkl, ea, eo]
          refine bcall (ruint1 l (mUint l (mHash l (mKeys l g (mCount l q 16).2).2).2 1099511627776).2 65536 hsa) (by simp only [go_sem, I, hN, hz, hlt, hK, ev, hkl, ea, eo]) (by simp [idsOk, allDead, idsOf, refsIn, AV.refs, AV.refsL, rdPV]) (by simp only [go_sem]) (by simp only [go_sem, I, hN, hz, hlt, hK, ev, hkl, ea, eo]) (by simp only [go_sem, I, hN, hz, hlt, hK, ev, hkl, ea, eo]) ?_
          simp only [go_sem, I, hN, hz, hlt, hK, ev, hkl, ea, eo]
          refine hk28 _ ?_
          refine aw_reg_last rfl fun Khk29 hk29 => ?_
          simp only [go_sem, I, hN, hz, hlt, hK, ev, hkl, ea, eo]
          refine hk29 _ ?_
          refine hk9 _ ?_
          refine aw_reg_last rfl fun Khk30 hk30 => ?_
          simp only [go_sem, I, hN, hz, hlt, hK, ev, hkl, ea, eo]
          refine hk30 _ ?_
          have ebr : mBr l q = (⟨(mKeys l g (mCount l q 16).2).1, (mHash l (mKeys l g (mCount l q 16).2).2).1, (mUint l (mHash l (mKeys l g (mCount l q 16).2).2).2 1099511627776).1, (mUint l (mUint l (mHash l (mKeys l g (mCount l q 16).2).2).2 1099511627776).2 65536).1⟩, (mUint l (mUint l (mHash l (mKeys l g (mCount l q 16).2).2).2 1099511627776).2 65536).2) := by simp only [mBr, hK, Int.toNat_natCast, ← hje]
          have hkp : 0 < (mKeys l g (mCount l q 16).2).1.length := by rw [mKeys_len]; omega
          have hq0 : (mCount l (0, 0) 8).2 = q := hq
          refine ⟨⟨0 + 1, hlt⟩, imp_less (by simp only [go_sem, I, hN, hz, hlt, hK, ev, hkl, ea, eo]; simp only [mBrs_1, hq0, ebr, brZ, kz_ne hkp, List.map_cons, List.map_nil, true_and, and_true]; exact le_int rfl), by simp only; omega⟩
    · have hie : 0 = N := by simp at cc8; omega
      generalize hq : (mBrs l 0 (mCount l (0, 0) 8).2).2 = q
      obtain ⟨bs, hb⟩ : ∃ bs : List Br, bs = [] := ⟨_, rfl⟩
      have hbs0 : (mBrs l N (mCount l (0, 0) 8).2).1 = bs := by rw [← hie, hb]; rfl
      have hqN : (mBrs l N (mCount l (0, 0) 8).2).2 = q := by rw [← hie]; exact hq
      have hle : AV.le (.p (.st [.v (.slice none 0 0)])) (.p (condPV bs)) = True := by rw [hb]; exact eq_true le_brs0
      have hbs : brsOk bs := by rw [hb]; exact ⟨by simp, fun b h => by cases h⟩
      have hcase : mDone l q ≠ 0 ∨ (mDone l q = 0 ∧ condOk bs = false) ∨ (mDone l q = 0 ∧ condOk bs = true) := by
        rcases Decidable.em (mDone l q = 0) with h | h
        · cases hc : condOk bs with
          | false => exact .inr (.inl ⟨h, rfl⟩)
          | true => exact .inr (.inr ⟨h, rfl⟩)
        · exact .inl h
      have hdec : mDec l = if mDone l q ≠ 0 then ([], 3) else if condOk bs = false then ([], 3) else (bs, 0) := by simp only [mDec, hN, Int.toNat_natCast, hqN, hbs0]
      refine aw_exit ?_
      refine hk4 _ ?_
      refine aw_seq fun Khk31 hk31 => ?_
      rcases hcase with hd | ⟨hd, hc⟩ | ⟨hd, hc⟩
      · have eD : mDec l = ([], 3) := by rw [hdec, if_pos hd]
        refine aw_reg rfl fun Khk32 hk32 => ?_
        simp only [go_sem, I, hN, hz, hle]
        refine bcall (done1_ne l q hd) (by simp only [go_sem, I, hN, hz, hle]) (by simp [idsOk, allDead, idsOf, refsIn, AV.refs, AV.refsL, rdPV]) (by simp only [go_sem]) (by simp only [go_sem, I, hN, hz, hle]) (by simp only [go_sem, I, hN, hz, hle]) ?_
        simp only [go_sem, I, hN, hz, hle]
        refine hk32 _ ?_
        refine aw_cond (b := true) (by simp only [go_sem, I, hN, hz, hle]) (fun _ => ?_) (fun h => by cases h)
        refine aw_reg rfl fun Khk33 hk33 => ?_
        simp only [go_sem, I, hN, hz, hle]
        refine hk33 _ ?_
        refine aw_ret ?_
        refine ret_cell_tmp rfl rfl rfl ⟨rfl, by simp only [go_sem, I, hN, hz, hle]⟩ ?_ ?_ (by simp only [go_sem, I, hN, hz, hle])
        · rw [eD]; exact le_brs0
        · simp only [go_sem, I, hN, hz, hle]
          rw [eD]; exact .inl rfl
      · have eD : mDec l = ([], 3) := by rw [hdec, if_neg (fun h => h hd), if_pos hc]
        refine aw_reg rfl fun Khk34 hk34 => ?_
        simp only [go_sem, I, hN, hz, hle]
        refine bcall (done1_nil l q hd) (by simp only [go_sem, I, hN, hz, hle]) (by simp [idsOk, allDead, idsOf, refsIn, AV.refs, AV.refsL, rdPV]) (by simp only [go_sem]) (by simp only [go_sem, I, hN, hz, hle]) (by simp only [go_sem, I, hN, hz, hle]) ?_
        simp only [go_sem, I, hN, hz, hle]
        refine bcall0 (check_bad bs hbs hc) (by simp only [go_sem, I, hN, hz, hle]) rfl (by simp only [go_sem, I, hN, hz, hle]) ?_
        simp only [go_sem, I, hN, hz, hle]
        refine hk34 _ ?_
        refine aw_cond rfl (fun cc35 => ?_) (fun cc35 => ?_)
        · refine aw_reg rfl fun Khk36 hk36 => ?_
          simp only [go_sem, I, hN, hz, hle]
          refine hk36 _ ?_
          refine aw_ret ?_
          refine ret_cell_tmp rfl rfl rfl ⟨rfl, by simp only [go_sem, I, hN, hz, hle]⟩ ?_ ?_ (by simp only [go_sem, I, hN, hz, hle])
          · rw [eD]; exact le_brs0
          · simp only [go_sem, I, hN, hz, hle]
            rw [eD]; exact .inl rfl
        · cases cc35
      · have eD : mDec l = (bs, 0) := by rw [hdec, if_neg (fun h => h hd), if_neg (by rw [hc]; simp)]
        refine aw_reg rfl fun Khk37 hk37 => ?_
        simp only [go_sem, I, hN, hz, hle]
        refine bcall (done1_nil l q hd) (by simp only [go_sem, I, hN, hz, hle]) (by simp [idsOk, allDead, idsOf, refsIn, AV.refs, AV.refsL, rdPV]) (by simp only [go_sem]) (by simp only [go_sem, I, hN, hz, hle]) (by simp only [go_sem, I, hN, hz, hle]) ?_
        simp only [go_sem, I, hN, hz, hle]
        refine bcall0 (check_ok bs hbs hc) (by simp only [go_sem, I, hN, hz, hle]) rfl (by simp only [go_sem, I, hN, hz, hle]) ?_
        simp only [go_sem, I, hN, hz, hle]
        refine hk37 _ ?_
        refine aw_cond rfl (fun cc38 => ?_) (fun cc38 => ?_)
        · cases cc38
        · refine aw_skip ?_
          refine hk31 _ ?_
          refine aw_reg rfl fun Khk39 hk39 => ?_
          simp only [go_sem, I, hN, hz, hle]
          refine hk39 _ ?_
          refine aw_ret ?_
          refine ret_cell_tmp rfl rfl rfl ⟨rfl, by simp only [go_sem, I, hN, hz, hle]⟩ ?_ ?_ (by simp only [go_sem, I, hN, hz, hle])
          · rw [eD]; exact of_eq_true hle
          · simp only [go_sem, I, hN, hz, hle]
            rw [eD]; exact .inl rfl
  · simp only [accR_s]
    generalize hm : i + 1 = m at hi ⊢
    have hbl : (mBrs l m (mCount l (0, 0) 8).2).1.length = m := mBrs_len m
    refine aw_reg rfl fun Khk40 hk40 => ?_
    simp only [go_sem, I, hN, hbl]
    refine hk40 _ ?_
    refine aw_seq fun Khk41 hk41 => ?_
    refine aw_cond rfl (fun cc42 => ?_) (fun cc42 => ?_)
    · have hlt : m < N := by simpa using cc42
      generalize hq : (mBrs l m (mCount l (0, 0) 8).2).2 = q
      have hsq : sOk l q := by rw [← hq]; exact sOk_brs hs0 _
      have hk := mCount_rng (most := 16) hsq (by omega)
      obtain ⟨K, hK⟩ : ∃ K : Nat, (mCount l q 16).1 = K := ⟨(mCount l q 16).1.toNat, by omega⟩
      have hK16 : K ≤ 16 := by omega
      refine aw_skip ?_
      refine hk41 _ ?_
      refine aw_seq fun Khk43 hk43 => ?_
      refine aw_block ?_
      refine aw_reg rfl fun Khk44 hk44 => ?_
      simp only [go_sem, I, hN, hbl, hlt, hK]
      refine hk44 _ ?_
      refine aw_seq fun Khk45 hk45 => ?_
      refine aw_reg rfl fun Khk46 hk46 => ?_
      simp only [go_sem, I, hN, hbl, hlt, hK]
      refine bcall (count1 l q 16 (by omega) (by omega) hsq) (by simp only [go_sem, I, hN, hbl, hlt, hK]) (by simp [idsOk, allDead, idsOf, refsIn, AV.refs, AV.refsL, rdPV]) (by simp only [go_sem]) (by simp only [go_sem, I, hN, hbl, hlt, hK]) (by simp only [go_sem, I, hN, hbl, hlt, hK]) ?_
      simp only [go_sem, I, hN, hbl, hlt, hK]
      refine hk46 _ ?_
      refine aw_block ?_
      refine aw_loop (α := {j : Nat // j ≤ K})
        (fun x => ⟨55, [(15, .p (.v (.int .i64 x.1))), (14, .p (.v (.int .i64 K))), (6, .ptr 6 []), (11, .p (.v (.int .i64 m))), (10, .p (.v (.int .i64 N))), (5, .ptr 5 []), (4, .ptr 1 []), (2, .ptr 2 []), (3, .p (.v .nilIface))], keyR 6 89 23 x.1 ((mKeys l x.1 (mCount l q 16).2).1.map I) x.1 [(1, .row 167 (.p (rdPV l (mKeys l x.1 (mCount l q 16).2).2.1 (errV (mKeys l x.1 (mCount l q 16).2).2.2)))), (5, .row 35 (.st [.slt 41 35 ((mBrs l m (mCount l (0, 0) 8).2).1.map brZ)])), (41, .tail m), (2, .row 35 (.p (.st [.v (.slice none 0 0)])))]⟩)
        (fun x => K - x.1) ⟨0, by omega⟩ (imp_less (by simp only [go_sem, I, hN, hbl, hlt, hK]; simp only [mKeys, and_self])) fun ⟨j, hj⟩ => ?_
      rcases j with _ | j
      · have hz1 : ((0 : Nat) : Int) = 0 := rfl
        have hsk : sOk l (mKeys l 0 (mCount l q 16).2).2 := sOk_keys (sOk_count hsq) 0
        have hv := mUint_rng (most := 16) hsk (by omega)
        have ev : IntKind.wrap .i64 (mUint l (mKeys l 0 (mCount l q 16).2).2 16).1 = (mUint l (mKeys l 0 (mCount l q 16).2).2 16).1 := wrap_i64 (by omega) (by omega)
        have hkl : (mKeys l 0 (mCount l q 16).2).1.length = 0 := mKeys_len 0
        refine aw_reg rfl fun Khk47 hk47 => ?_
        simp only [go_sem, I, hN, hbl, hlt, hK, hz1, ev, hkl]
        refine hk47 _ ?_
        refine aw_seq fun Khk48 hk48 => ?_
        refine aw_cond rfl (fun cc49 => ?_) (fun cc49 => ?_)
        · have hjt : 0 < K := by simpa using cc49
          refine aw_skip ?_
          refine hk48 _ ?_
          refine aw_seq fun Khk50 hk50 => ?_
          refine aw_block ?_
          refine aw_draw_last _ (by kernel_rfl) rfl rfl fun Jhk51 hk51 => ?_
          simp only [go_sem, I, hN, hbl, hlt, hK, hz1, ev, hkl]
          refine ccall (ruint1 l (mKeys l 0 (mCount l q 16).2).2 16 hsk) (by simp only [go_sem, I, hN, hbl, hlt, hK, hz1, ev, hkl]) (by simp [idsOk, allDead, idsOf, refsIn, AV.refs, AV.refsL, rdPV]) (by simp only [go_sem]) (by simp only [go_sem, I, hN, hbl, hlt, hK, hz1, ev, hkl]) ?_
          simp only [go_sem, I, hN, hbl, hlt, hK, hz1, ev, hkl]
          refine hk51 _ _ _ ⟨by kernel_rfl, by first | exact trivial | (simp only [go_sem, I, hN, hbl, hlt, hK, hz1, ev, hkl])⟩ ?_
          refine hk50 _ ?_
          refine aw_reg_last rfl fun Khk52 hk52 => ?_
          simp only [go_sem, I, hN, hbl, hlt, hK, hz1, ev, hkl]
          refine hk52 _ ?_
          refine ⟨⟨0 + 1, hjt⟩, imp_less (by simp only [go_sem, I, hN, hbl, hlt, hK, hz1, ev, hkl]; simp only [mKeys, List.map_append, List.map_cons, List.map_nil, List.nil_append, I, true_and, and_true]; exact le_int rfl), by simp only; omega⟩
        · have hje : K = 0 := by simp at cc49; omega
          have hsh := sOk_hash hsk
          have hsa := sOk_uint (most := 1099511627776) hsh
          have ha := mUint_rng (most := 1099511627776) hsh (by omega)
          have ho := mUint_rng (most := 65536) hsa (by omega)
          have ea : IntKind.wrap .i64 (mUint l (mHash l (mKeys l 0 (mCount l q 16).2).2).2 1099511627776).1 = (mUint l (mHash l (mKeys l 0 (mCount l q 16).2).2).2 1099511627776).1 := wrap_i64 (by omega) (by omega)
          have eo : IntKind.wrap .i64 (mUint l (mUint l (mHash l (mKeys l 0 (mCount l q 16).2).2).2 1099511627776).2 65536).1 = (mUint l (mUint l (mHash l (mKeys l 0 (mCount l q 16).2).2).2 1099511627776).2 65536).1 := wrap_i64 (by omega) (by omega)
          refine aw_exit ?_
          refine hk45 _ ?_
          refine aw_reg rfl fun Khk53 hk53 => ?_
          simp only [go_sem, I, hN, hbl, hlt, hK, hz1, ev, hkl, ea, eo]
          refine bcall (rhash1 l (mKeys l 0 (mCount l q 16).2).2 hsk) (by simp only [go_sem, I, hN, hbl, hlt, hK, hz1, ev, hkl, ea, eo]) (by simp [idsOk, allDead, idsOf, refsIn, AV.refs, AV.refsL, rdPV]) (by simp only [go_sem]) (by simp only [go_sem, I, hN, hbl, hlt, hK, hz1, ev, hkl, ea, eo]) (by simp only [go_sem, I, hN, hbl, hlt, hK, hz1, ev, hkl, ea, eo]) ?_
          simp only [go_sem, I, hN, hbl, hlt, hK, hz1, ev, hkl, ea, eo]
          refine bcall (ruint1 l (mHash l (mKeys l 0 (mCount l q 16).2).2).2 1099511627776 hsh) (by simp only [go_sem, I, hN, hbl, hlt, hK, hz1, ev, hkl, ea, eo]) (by simp [idsOk, allDead, idsOf, refsIn, AV.refs, AV.refsL, rdPV]) (by simp only [go_sem]) (by simp only [go_sem, I, hN, hbl, hlt, hK, hz1, ev, hkl, ea, eo]) (by simp only [go_sem, I, hN, hbl, hlt, hK, hz1, ev, hkl, ea, eo]) ?_
          simp only [go_sem, I, hN, hbl, hlt, hK, hz1, ev, hkl, ea, eo]
          refine bcall (ruint1 l (mUint l (mHash l (mKeys l 0 (mCount l q 16).2).2).2 1099511627776).2 65536 hsa) (by simp only [go_sem, I, hN, hbl, hlt, hK, hz1, ev, hkl, ea, eo]) (by simp [idsOk, allDead, idsOf, refsIn, AV.refs, AV.refsL, rdPV]) (by simp only [go_sem]) (by simp only [go_sem, I, hN, hbl, hlt, hK, hz1, ev, hkl, ea, eo]) (by simp only [go_sem, I, hN, hbl, hlt, hK, hz1, ev, hkl, ea, eo]) ?_
          simp only [go_sem, I, hN, hbl, hlt, hK, hz1, ev, hkl, ea, eo]
          refine hk53 _ ?_
          refine aw_reg_last rfl fun Khk54 hk54 => ?_
          simp only [go_sem, I, hN, hbl, hlt, hK, hz1, ev, hkl, ea, eo]
          refine ⟨by omega, ?_⟩
          refine hk54 _ ?_
          refine hk43 _ ?_
          refine aw_reg_last rfl fun Khk55 hk55 => ?_
          simp only [go_sem, I, hN, hbl, hlt, hK, hz1, ev, hkl, ea, eo]
          refine hk55 _ ?_
          have ebr : mBr l q = (⟨(mKeys l 0 (mCount l q 16).2).1, (mHash l (mKeys l 0 (mCount l q 16).2).2).1, (mUint l (mHash l (mKeys l 0 (mCount l q 16).2).2).2 1099511627776).1, (mUint l (mUint l (mHash l (mKeys l 0 (mCount l q 16).2).2).2 1099511627776).2 65536).1⟩, (mUint l (mUint l (mHash l (mKeys l 0 (mCount l q 16).2).2).2 1099511627776).2 65536).2) := by simp only [mBr, hK, Int.toNat_natCast, hje]
          refine ⟨⟨m + 1, hlt⟩, imp_less (by simp only [go_sem, I, hN, hbl, hlt, hK, hz1, ev, hkl, ea, eo]; simp only [mBrs_s, List.map_append, hq, ebr, brZ, mKeys, kz, List.map_cons, List.map_nil, true_and, and_true]; exact le_int (wrap_i64 (by omega) (by omega))), by simp only; omega⟩
      · simp only [keyR_s]
        generalize hg : j + 1 = g at hj ⊢
        have hsk : sOk l (mKeys l g (mCount l q 16).2).2 := sOk_keys (sOk_count hsq) g
        have hv := mUint_rng (most := 16) hsk (by omega)
        have ev : IntKind.wrap .i64 (mUint l (mKeys l g (mCount l q 16).2).2 16).1 = (mUint l (mKeys l g (mCount l q 16).2).2 16).1 := wrap_i64 (by omega) (by omega)
        have hkl : (mKeys l g (mCount l q 16).2).1.length = g := mKeys_len g
        refine aw_reg rfl fun Khk56 hk56 => ?_
        simp only [go_sem, I, hN, hbl, hlt, hK, ev, hkl]
        refine hk56 _ ?_
        refine aw_seq fun Khk57 hk57 => ?_
        refine aw_cond rfl (fun cc58 => ?_) (fun cc58 => ?_)
        · have hjt : g < K := by simpa using cc58
          refine aw_skip ?_
          refine hk57 _ ?_
          refine aw_seq fun Khk59 hk59 => ?_
          refine aw_block ?_
          refine aw_draw_last _ (by kernel_rfl) rfl rfl fun Jhk60 hk60 => ?_
          simp only [go_sem, I, hN, hbl, hlt, hK, ev, hkl]
          refine ccall (ruint1 l (mKeys l g (mCount l q 16).2).2 16 hsk) (by simp only [go_sem, I, hN, hbl, hlt, hK, ev, hkl]) (by simp [idsOk, allDead, idsOf, refsIn, AV.refs, AV.refsL, rdPV]) (by simp only [go_sem]) (by simp only [go_sem, I, hN, hbl, hlt, hK, ev, hkl]) ?_
          simp only [go_sem, I, hN, hbl, hlt, hK, ev, hkl]
          refine ⟨by omega, ?_⟩
          refine hk60 _ _ _ ⟨by kernel_rfl, by first | exact trivial | (simp only [go_sem, I, hN, hbl, hlt, hK, ev, hkl])⟩ ?_
          refine hk59 _ ?_
          refine aw_reg_last rfl fun Khk61 hk61 => ?_
          simp only [go_sem, I, hN, hbl, hlt, hK, ev, hkl]
          refine hk61 _ ?_
          refine ⟨⟨g + 1, hjt⟩, imp_less (by simp only [go_sem, I, hN, hbl, hlt, hK, ev, hkl]; simp only [mKeys, List.map_append, List.map_cons, List.map_nil, List.nil_append, I, true_and, and_true]; exact le_int (wrap_i64 (by omega) (by omega))), by simp only; omega⟩
        · have hje : g = K := by simp at cc58; omega
          have hsh := sOk_hash hsk
          have hsa := sOk_uint (most := 1099511627776) hsh
          have ha := mUint_rng (most := 1099511627776) hsh (by omega)
          have ho := mUint_rng (most := 65536) hsa (by omega)
          have ea : IntKind.wrap .i64 (mUint l (mHash l (mKeys l g (mCount l q 16).2).2).2 1099511627776).1 = (mUint l (mHash l (mKeys l g (mCount l q 16).2).2).2 1099511627776).1 := wrap_i64 (by omega) (by omega)
          have eo : IntKind.wrap .i64 (mUint l (mUint l (mHash l (mKeys l g (mCount l q 16).2).2).2 1099511627776).2 65536).1 = (mUint l (mUint l (mHash l (mKeys l g (mCount l q 16).2).2).2 1099511627776).2 65536).1 := wrap_i64 (by omega) (by omega)
          refine aw_exit ?_
          refine hk45 _ ?_
          refine aw_reg rfl fun Khk62 hk62 => ?_
          simp only [go_sem, I, hN, hbl, hlt, hK, ev, hkl, ea, eo]
          refine bcall (rhash1 l (mKeys l g (mCount l q 16).2).2 hsk) (by simp only [go_sem, I, hN, hbl, hlt, hK, ev, hkl, ea, eo]) (by simp [idsOk, allDead, idsOf, refsIn, AV.refs, AV.refsL, rdPV]) (by simp only [go_sem]) (by simp only [go_sem, I, hN, hbl, hlt, hK, ev, hkl, ea, eo]) (by simp only [go_sem, I, hN, hbl, hlt, hK, ev, hkl, ea, eo]) ?_
          simp only [go_sem, I, hN, hbl, hlt, hK, ev, hkl, ea, eo]
          refine bcall (ruint1 l (mHash l (mKeys l g (mCount l q 16).2).2).2 1099511627776 hsh) (by simp only [go_sem, I, hN, hbl, hlt, hK, ev, hkl, ea, eo]) (by simp [idsOk, allDead, idsOf, refsIn, AV.refs, AV.refsL, rdPV]) (by simp only [go_sem]) (by simp only [go_sem, I, hN, hbl, hlt, hK, ev, hkl, ea, eo]) (by simp only [go_sem, I, hN, hbl, hlt, hK, ev, hkl, ea, eo]) ?_
          simp only [go_sem, I, hN, hbl, hlt, hK, ev, hkl, ea, eo]
          refine bcall (ruint1 l (mUint l (mHash l (mKeys l g (mCount l q 16).2).2).2 1099511627776).2 65536 hsa) (by simp only [go_sem, I, hN, hbl, hlt, hK, ev, hkl, ea, eo]) (by simp [idsOk, allDead, idsOf, refsIn, AV.refs, AV.refsL, rdPV]) (by simp only [go_sem]) (by simp only [go_sem, I, hN, hbl, hlt, hK, ev, hkl, ea, eo]) (by simp only [go_sem, I, hN, hbl, hlt, hK, ev, hkl, ea, eo]) ?_
          simp only [go_sem, I, hN, hbl, hlt, hK, ev, hkl, ea, eo]
          refine hk62 _ ?_
          refine aw_reg_last rfl fun Khk63 hk63 => ?_
          simp only [go_sem, I, hN, hbl, hlt, hK, ev, hkl, ea, eo]
          refine ⟨by omega, ?_⟩
          refine hk63 _ ?_
          refine hk43 _ ?_
          refine aw_reg_last rfl fun Khk64 hk64 => ?_
          simp only [go_sem, I, hN, hbl, hlt, hK, ev, hkl, ea, eo]
          refine hk64 _ ?_
          have ebr : mBr l q = (⟨(mKeys l g (mCount l q 16).2).1, (mHash l (mKeys l g (mCount l q 16).2).2).1, (mUint l (mHash l (mKeys l g (mCount l q 16).2).2).2 1099511627776).1, (mUint l (mUint l (mHash l (mKeys l g (mCount l q 16).2).2).2 1099511627776).2 65536).1⟩, (mUint l (mUint l (mHash l (mKeys l g (mCount l q 16).2).2).2 1099511627776).2 65536).2) := by simp only [mBr, hK, Int.toNat_natCast, ← hje]
          have hkp : 0 < (mKeys l g (mCount l q 16).2).1.length := by rw [mKeys_len]; omega
          refine ⟨⟨m + 1, hlt⟩, imp_less (by simp only [go_sem, I, hN, hbl, hlt, hK, ev, hkl, ea, eo]; simp only [mBrs_s, List.map_append, hq, ebr, brZ, kz_ne hkp, List.map_cons, List.map_nil, true_and, and_true]; exact le_int (wrap_i64 (by omega) (by omega))), by simp only; omega⟩
    · have hie : m = N := by simp at cc42; omega
      generalize hq : (mBrs l m (mCount l (0, 0) 8).2).2 = q
      have hbk := mBrs_keys hs0 m
      generalize hb : (mBrs l m (mCount l (0, 0) 8).2).1 = bs at hbl hbk ⊢
      have hbs0 : (mBrs l N (mCount l (0, 0) 8).2).1 = bs := by rw [← hie]; exact hb
      have hqN : (mBrs l N (mCount l (0, 0) 8).2).2 = q := by rw [← hie]; exact hq
      have hle : AV.le (.st [.slt 41 35 (bs.map brZ)]) (.p (condPV bs)) = True := eq_true le_brs
      have hbs : brsOk bs := ⟨by omega, fun b h => by have := hbk b h; omega⟩
      have hcase : mDone l q ≠ 0 ∨ (mDone l q = 0 ∧ condOk bs = false) ∨ (mDone l q = 0 ∧ condOk bs = true) := by
        rcases Decidable.em (mDone l q = 0) with h | h
        · cases hc : condOk bs with
          | false => exact .inr (.inl ⟨h, rfl⟩)
          | true => exact .inr (.inr ⟨h, rfl⟩)
        · exact .inl h
      have hdec : mDec l = if mDone l q ≠ 0 then ([], 3) else if condOk bs = false then ([], 3) else (bs, 0) := by simp only [mDec, hN, Int.toNat_natCast, hqN, hbs0]
      refine aw_exit ?_
      refine hk4 _ ?_
      refine aw_seq fun Khk65 hk65 => ?_
      rcases hcase with hd | ⟨hd, hc⟩ | ⟨hd, hc⟩
      · have eD : mDec l = ([], 3) := by rw [hdec, if_pos hd]
        refine aw_reg rfl fun Khk66 hk66 => ?_
        simp only [go_sem, I, hN, hbl, hle]
        refine bcall (done1_ne l q hd) (by simp only [go_sem, I, hN, hbl, hle]) (by simp [idsOk, allDead, idsOf, refsIn, AV.refs, AV.refsL, rdPV]) (by simp only [go_sem]) (by simp only [go_sem, I, hN, hbl, hle]) (by simp only [go_sem, I, hN, hbl, hle]) ?_
        simp only [go_sem, I, hN, hbl, hle]
        refine hk66 _ ?_
        refine aw_cond (b := true) (by simp only [go_sem, I, hN, hbl, hle]) (fun _ => ?_) (fun h => by cases h)
        refine aw_reg rfl fun Khk67 hk67 => ?_
        simp only [go_sem, I, hN, hbl, hle]
        refine hk67 _ ?_
        refine aw_ret ?_
        refine ret_cell_tmp rfl rfl rfl ⟨rfl, by simp only [go_sem, I, hN, hbl, hle]⟩ ?_ ?_ (by simp only [go_sem, I, hN, hbl, hle])
        · rw [eD]; exact le_brs0
        · simp only [go_sem, I, hN, hbl, hle]
          rw [eD]; exact .inl rfl
      · have eD : mDec l = ([], 3) := by rw [hdec, if_neg (fun h => h hd), if_pos hc]
        refine aw_reg rfl fun Khk68 hk68 => ?_
        simp only [go_sem, I, hN, hbl, hle]
        refine bcall (done1_nil l q hd) (by simp only [go_sem, I, hN, hbl, hle]) (by simp [idsOk, allDead, idsOf, refsIn, AV.refs, AV.refsL, rdPV]) (by simp only [go_sem]) (by simp only [go_sem, I, hN, hbl, hle]) (by simp only [go_sem, I, hN, hbl, hle]) ?_
        simp only [go_sem, I, hN, hbl, hle]
        refine bcall0 (check_bad bs hbs hc) (by simp only [go_sem, I, hN, hbl, hle]) rfl (by simp only [go_sem, I, hN, hbl, hle]) ?_
        simp only [go_sem, I, hN, hbl, hle]
        refine hk68 _ ?_
        refine aw_cond rfl (fun cc69 => ?_) (fun cc69 => ?_)
        · refine aw_reg rfl fun Khk70 hk70 => ?_
          simp only [go_sem, I, hN, hbl, hle]
          refine hk70 _ ?_
          refine aw_ret ?_
          refine ret_cell_tmp rfl rfl rfl ⟨rfl, by simp only [go_sem, I, hN, hbl, hle]⟩ ?_ ?_ (by simp only [go_sem, I, hN, hbl, hle])
          · rw [eD]; exact le_brs0
          · simp only [go_sem, I, hN, hbl, hle]
            rw [eD]; exact .inl rfl
        · cases cc69
      · have eD : mDec l = (bs, 0) := by rw [hdec, if_neg (fun h => h hd), if_neg (by rw [hc]; simp)]
        refine aw_reg rfl fun Khk71 hk71 => ?_
        simp only [go_sem, I, hN, hbl, hle]
        refine bcall (done1_nil l q hd) (by simp only [go_sem, I, hN, hbl, hle]) (by simp [idsOk, allDead, idsOf, refsIn, AV.refs, AV.refsL, rdPV]) (by simp only [go_sem]) (by simp only [go_sem, I, hN, hbl, hle]) (by simp only [go_sem, I, hN, hbl, hle]) ?_
        simp only [go_sem, I, hN, hbl, hle]
        refine bcall0 (check_ok bs hbs hc) (by simp only [go_sem, I, hN, hbl, hle]) rfl (by simp only [go_sem, I, hN, hbl, hle]) ?_
        simp only [go_sem, I, hN, hbl, hle]
        refine hk71 _ ?_
        refine aw_cond rfl (fun cc72 => ?_) (fun cc72 => ?_)
        · cases cc72
        · refine aw_skip ?_
          refine hk65 _ ?_
          refine aw_reg rfl fun Khk73 hk73 => ?_
          simp only [go_sem, I, hN, hbl, hle]
          refine hk73 _ ?_
          refine aw_ret ?_
          refine ret_cell_tmp rfl rfl rfl ⟨rfl, by simp only [go_sem, I, hN, hbl, hle]⟩ ?_ ?_ (by simp only [go_sem, I, hN, hbl, hle])
          · rw [eD]; exact of_eq_true hle
          · simp only [go_sem, I, hN, hbl, hle]
            rw [eD]; exact .inl rfl

end Go.Proofs.YtlfincjibiihaaaDoor
end
