/- CondAll, the law that cond.All makes the condition that the reference makes and that its bytes agree, answers true at every list of numbers, as its tied card says; no conditions. -/
import Derived.Test.YtlfincjibiihaaaDoorRows
import Derived.Test.YtlfincjibiihaaaDoorCards
import Derived.Test.YtlfincjibiihaaaDoorTie
import Derived.ChangeSame
import Derived.ChangeVars
import Derived.JoinedOf
import Derived.ProofKit
import Derived.LaidMore
import Derived.OpenShut
import Derived.Carry
import Derived.LaidLaws
import Derived.LaidHandle
import Derived.Stop.Joined
import Derived.SevenTiedAt
import Derived.Test.YtlfincjibiihaaaDoorCondAll5
section
namespace Go.Proofs.YtlfincjibiihaaaDoor
open Go Go.Av Go.Proofs
set_option linter.unusedVariables false
set_option linter.unusedSimpArgs false
set_option linter.unusedSectionVars false
def zeros : List Int := List.replicate 32 0
/-- The number of the error, if what is shown does not open a branch. -/
def opensN (c : List Br) (i : Int) (s : Sn) (sumF : List Int → List Int) : Int :=
  if condOk c = false then 1 else if i < 0 ∨ (c.length : Int) ≤ i then 4 else if missAt (ix c i.toNat).keys s ≥ 0 then 21
  else if (ix c i.toNat).lock ≠ zeros ∧ (ix c i.toNat).lock ≠ sumF s.secret then 22 else if s.height < (ix c i.toNat).after ∨ s.age < (ix c i.toNat).older then 23 else 0
theorem check_bad (c : List Br) (hc : brsOk c) (h : condOk c = false) : ACalls Tryd.prog 14 [.p (condPV c)] [] (.p (.v (.iface 93 (.int .i64 1)))) [] := by
  have := check_calls c hc
  rw [h] at this
  exact this
theorem check_ok (c : List Br) (hc : brsOk c) (h : condOk c = true) : ACalls Tryd.prog 14 [.p (condPV c)] [] (.p (.v .nilIface)) [] := by
  have := check_calls c hc
  rw [h] at this
  exact this
theorem containsMissing_at (t : Nat) (l : List Int) (s : Sn) (hl : l.length < 1000000) (hs : s.signed.length < 1000000) : ACalls Tryd.prog 42 [.p (.sl 1 (l.map I)), .fn (.func 40) [.ptr t []]] [(t, .row 41 (.p (seenPV s)))] (.p (.v (.bool (decide (missAt l s ≥ 0))))) [(t, .row 41 (.p (seenPV s)))] := by
  have := (containsMissing_calls l s hl hs).swap 1000 t
  simpa only [List.map_cons, List.map_nil, AV.ren, AV.renL, renH, AObj.ren, swp, if_true] using this
theorem hashTy : RowTy Tryd.prog 73 5 32 .u8 := ⟨ar73, ik5, ld5⟩

set_option maxRecDepth 100000 in
set_option maxHeartbeats 2000000 in
theorem opens_bad (c : List Br) (i : Int) (s : Sn) (sumF : List Int → List Int) (hc : brsOk c) (h : condOk c = false) : ACalls Tryd.prog 16 [.p (condPV c), .p (.v (.int .i64 i)), .p (seenPV s)] [] (.p (.v (errV (opensN c i s sumF)))) [] := by
  refine acalls_of (fn := Tryd.f16) Tryd.func16 rfl (by decide) (n := 65) rfl (by simp) (by simp) (by simp [idsOf]) (by simp [idsOf]) ?_
  simp only [argT]
  refine aw_reg rfl fun Khk1 hk1 => ?_
  simp only [go_sem, condPV]
  refine hk1 _ ?_
  refine aw_seq fun Khk2 hk2 => ?_
  refine aw_reg rfl fun Khk3 hk3 => ?_
  simp only [go_sem, condPV]
  refine bcall0 (check_bad c hc h) (by simp only [go_sem, condPV]) rfl (by simp only [go_sem, condPV]) ?_
  simp only [go_sem, condPV]
  refine hk3 _ ?_
  refine aw_reg rfl fun Khk4 hk4 => ?_
  simp only [go_sem, condPV]
  refine hk4 _ ?_
  refine aw_cond rfl (fun cc5 => ?_) (fun cc5 => ?_)
  · refine aw_reg rfl fun Khk6 hk6 => ?_
    simp only [go_sem, condPV]
    refine hk6 _ ?_
    refine aw_ret ?_
    refine ret_tmp ?_ trivial
    simp only [go_sem, condPV]
    have e : opensN c i s sumF = 1 := by
      simp [opensN, *]
    rw [e]
    simp [errV, AV.le]
  · cases cc5

set_option maxRecDepth 100000 in
set_option maxHeartbeats 2000000 in
theorem opens_ok (c : List Br) (i : Int) (s : Sn) (sumF : List Int → List Int) (hc : brsOk c) (hs : s.signed.length < 1000000) (h : condOk c = true) (hL : (∃ b ∈ c, b.lock ≠ zeros) → ACalls Tryd.prog 43 [.p (.sl 1 (s.secret.map B))] [] (.p (.ints .u8 32 (sumF s.secret))) []) : ACalls Tryd.prog 16 [.p (condPV c), .p (.v (.int .i64 i)), .p (seenPV s)] [] (.p (.v (errV (opensN c i s sumF)))) [] := by
  refine acalls_of (fn := Tryd.f16) Tryd.func16 rfl (by decide) (n := 65) rfl (by simp) (by simp) (by simp [idsOf]) (by simp [idsOf]) ?_
  simp only [argT]
  refine aw_reg rfl fun Khk1 hk1 => ?_
  simp only [go_sem, condPV, seenPV, brPV]
  refine hk1 _ ?_
  refine aw_seq fun Khk2 hk2 => ?_
  refine aw_reg rfl fun Khk3 hk3 => ?_
  simp only [go_sem, condPV, seenPV, brPV]
  refine bcall0 (check_ok c hc h) (by simp only [go_sem, condPV, seenPV, brPV]) rfl (by simp only [go_sem, condPV, seenPV, brPV]) ?_
  simp only [go_sem, condPV, seenPV, brPV]
  refine hk3 _ ?_
  refine aw_reg rfl fun Khk4 hk4 => ?_
  simp only [go_sem, condPV, seenPV, brPV]
  refine hk4 _ ?_
  refine aw_cond rfl (fun cc5 => ?_) (fun cc5 => ?_)
  · cases cc5
  · refine aw_skip ?_
    refine hk2 _ ?_
    refine aw_seq fun Khk6 hk6 => ?_
    refine aw_reg rfl fun Khk7 hk7 => ?_
    simp only [go_sem, condPV, seenPV, brPV]
    refine bg_split (fun cc8 => ?_) (fun cc8 => ?_)
    · have h0 : i < 0 := by simpa using cc8
      simp only [go_sem, condPV, seenPV, brPV, cc8]
      refine hk7 _ ?_
      refine aw_cond (b := true) (by simp only [go_sem, condPV, seenPV, brPV, cc8]) (fun _ => ?_) (fun h => by cases h)
      have h1 : i < 0 ∨ (c.length : Int) ≤ i := by simp at *; omega
      refine aw_reg rfl fun Khk9 hk9 => ?_
      simp only [go_sem, condPV, seenPV, brPV]
      refine hk9 _ ?_
      refine aw_ret ?_
      refine ret_tmp ?_ trivial
      simp only [go_sem, condPV, seenPV, brPV]
      have e : opensN c i s sumF = 4 := by
        rw [opensN, if_neg (by simp [h]), if_pos (.inl h0)]
      rw [e]
      simp [errV, AV.le]
    · have h0 : 0 ≤ i := by simp at cc8; omega
      simp only [go_sem, condPV, seenPV, brPV, cc8]
      refine hk7 _ ?_
      refine aw_cond rfl (fun cc10 => ?_) (fun cc10 => ?_)
      · have h1 : i < 0 ∨ (c.length : Int) ≤ i := by simp at *; omega
        refine aw_reg rfl fun Khk11 hk11 => ?_
        simp only [go_sem, condPV, seenPV, brPV]
        refine hk11 _ ?_
        refine aw_ret ?_
        refine ret_tmp ?_ trivial
        simp only [go_sem, condPV, seenPV, brPV]
        have e : opensN c i s sumF = 4 := by
          rw [opensN, if_neg (by simp [h]), if_pos h1]
        rw [e]
        simp [errV, AV.le]
      · have h1 : i < c.length := by simp at cc10; omega
        obtain ⟨k, rfl⟩ : ∃ k : Nat, i = k := ⟨i.toNat, by omega⟩
        have hk : k < c.length := by omega
        have hop : opensN c k s sumF = if missAt (ix c k).keys s ≥ 0 then 21 else if (ix c k).lock ≠ zeros ∧ (ix c k).lock ≠ sumF s.secret then 22 else if s.height < (ix c k).after ∨ s.age < (ix c k).older then 23 else 0 := by
          rw [opensN, if_neg (by simp [h]), if_neg (by omega), Int.toNat_natCast]
        refine aw_skip ?_
        refine hk6 _ ?_
        refine aw_reg rfl fun Khk12 hk12 => ?_
        simp only [go_sem, condPV, seenPV, brPV, hk, ix_map]
        refine hk12 _ ?_
        refine aw_reg rfl fun Khk13 hk13 => ?_
        simp only [go_sem, condPV, seenPV, brPV, hk, ix_map]
        refine ⟨by rintro c rfl; exact ⟨rfl, rfl⟩, ?_⟩
        refine hk13 _ ?_
        refine aw_seq fun Khk14 hk14 => ?_
        refine aw_block ?_
        refine aw_reg rfl fun Khk15 hk15 => ?_
        simp only [go_sem, condPV, seenPV, brPV, hk, ix_map]
        refine bcall (containsMissing_at 5 (ix c k).keys s (brsOk_ix hc hk) hs) (by simp only [go_sem, condPV, seenPV, brPV, hk, ix_map]) (by simp [idsOk, allDead, idsOf, refsIn, AV.refs, AV.refsL, seenPV, brPV, condPV]) (by simp only [go_sem, seenPV, brPV, condPV]) (by simp only [go_sem, condPV, seenPV, brPV, hk, ix_map]) (by simp only [go_sem, condPV, seenPV, brPV, hk, ix_map]) ?_
        simp only [go_sem, condPV, seenPV, brPV, hk, ix_map]
        refine hk15 _ ?_
        refine aw_cond rfl (fun cc16 => ?_) (fun cc16 => ?_)
        · have h2 : missAt (ix c k).keys s ≥ 0 := by simpa using cc16
          refine aw_reg rfl fun Khk17 hk17 => ?_
          simp only [go_sem, condPV, seenPV, brPV, hk, ix_map]
          refine hk17 _ ?_
          refine aw_ret ?_
          refine ret_tmp ?_ trivial
          simp only [go_sem, condPV, seenPV, brPV, hk, ix_map]
          have e : opensN c k s sumF = 21 := by
            rw [hop, if_pos h2]
          rw [e]
          simp [errV, AV.le]
        · have h2 : ¬ missAt (ix c k).keys s ≥ 0 := by simpa using cc16
          rw [if_neg h2] at hop
          refine aw_draw _ (by kernel_rfl) rfl rfl fun Jhk18 hk18 => ?_
          simp only [go_sem, condPV, seenPV, brPV, hk, ix_map]
          refine ctree (binRun_neq_ints hashTy _ _ (ix c k).lock zeros) (by simp only [go_sem, condPV, seenPV, brPV, hk, ix_map]) ?_
          simp only [go_sem, condPV, seenPV, brPV, hk, ix_map]
          refine cg_split (fun cc19 => ?_) (fun cc19 => ?_)
          · have hz : (ix c k).lock ≠ zeros := by simpa using cc19
            simp only [go_sem, condPV, seenPV, brPV, hk, ix_map, cc19]
            refine ccall0 (hL ⟨ix c k, by rw [ix_get hk]; exact List.getElem_mem hk, hz⟩) (by simp only [go_sem, condPV, seenPV, brPV, hk, ix_map, cc19]) rfl (by simp only [go_sem, condPV, seenPV, brPV, hk, ix_map, cc19]) ?_
            simp only [go_sem, condPV, seenPV, brPV, hk, ix_map, cc19]
            refine ctree (binRun_neq_ints hashTy _ _ (ix c k).lock (sumF s.secret)) (by simp only [go_sem, condPV, seenPV, brPV, hk, ix_map, cc19]) ?_
            simp only [go_sem, condPV, seenPV, brPV, hk, ix_map, cc19]
            refine hk18 _ _ _ ⟨by kernel_rfl, by first | exact trivial | (simp only [go_sem, condPV, seenPV, brPV, hk, ix_map, cc19])⟩ ?_
            refine aw_cond rfl (fun cc20 => ?_) (fun cc20 => ?_)
            · have h3 : (ix c k).lock ≠ sumF s.secret := by simpa using cc20
              refine aw_reg rfl fun Khk21 hk21 => ?_
              simp only [go_sem, condPV, seenPV, brPV, hk, ix_map]
              refine hk21 _ ?_
              refine aw_ret ?_
              refine ret_tmp ?_ trivial
              simp only [go_sem, condPV, seenPV, brPV, hk, ix_map]
              have e : opensN c k s sumF = 22 := by
                rw [hop, if_pos ⟨hz, h3⟩]
              rw [e]
              simp [errV, AV.le]
            · have h3 : (ix c k).lock = sumF s.secret := by simpa using cc20
              rw [if_neg (fun h => h.2 h3)] at hop
              refine aw_reg rfl fun Khk22 hk22 => ?_
              simp only [go_sem, condPV, seenPV, brPV, hk, ix_map]
              refine bg_split (fun cc23 => ?_) (fun cc23 => ?_)
              · have h4 : s.height < (ix c k).after := by simpa using cc23
                simp only [go_sem, condPV, seenPV, brPV, hk, ix_map, cc23]
                refine hk22 _ ?_
                refine aw_cond (b := true) (by simp only [go_sem, condPV, seenPV, brPV, hk, ix_map, cc23]) (fun _ => ?_) (fun h => by cases h)
                refine aw_reg rfl fun Khk24 hk24 => ?_
                simp only [go_sem, condPV, seenPV, brPV, hk, ix_map]
                refine hk24 _ ?_
                refine aw_ret ?_
                refine ret_tmp ?_ trivial
                simp only [go_sem, condPV, seenPV, brPV, hk, ix_map]
                have e : opensN c k s sumF = 23 := by
                  rw [hop, if_pos (.inl h4)]
                rw [e]
                simp [errV, AV.le]
              · have h4 : ¬ s.height < (ix c k).after := by simpa using cc23
                simp only [go_sem, condPV, seenPV, brPV, hk, ix_map, cc23]
                refine hk22 _ ?_
                refine aw_cond rfl (fun cc25 => ?_) (fun cc25 => ?_)
                · have h5 : s.age < (ix c k).older := by simpa using cc25
                  refine aw_reg rfl fun Khk26 hk26 => ?_
                  simp only [go_sem, condPV, seenPV, brPV, hk, ix_map]
                  refine hk26 _ ?_
                  refine aw_ret ?_
                  refine ret_tmp ?_ trivial
                  simp only [go_sem, condPV, seenPV, brPV, hk, ix_map]
                  have e : opensN c k s sumF = 23 := by
                    rw [hop, if_pos (.inr h5)]
                  rw [e]
                  simp [errV, AV.le]
                · have h5 : ¬ s.age < (ix c k).older := by simpa using cc25
                  refine aw_skip ?_
                  refine hk14 _ ?_
                  refine aw_reg rfl fun Khk27 hk27 => ?_
                  simp only [go_sem, condPV, seenPV, brPV, hk, ix_map]
                  refine hk27 _ ?_
                  refine aw_ret ?_
                  refine ret_tmp ?_ trivial
                  simp only [go_sem, condPV, seenPV, brPV, hk, ix_map]
                  have e : opensN c k s sumF = 0 := by
                    rw [hop, if_neg (by rintro (h | h); exact h4 h; exact h5 h)]
                  rw [e]
                  simp [errV, AV.le]
          · have hz : (ix c k).lock = zeros := by simpa using cc19
            rw [if_neg (fun h => h.1 hz)] at hop
            simp only [go_sem, condPV, seenPV, brPV, hk, ix_map, cc19]
            refine hk18 _ _ _ ⟨by kernel_rfl, by first | exact trivial | (simp only [go_sem, condPV, seenPV, brPV, hk, ix_map, cc19])⟩ ?_
            refine aw_cond (b := false) (by simp only [go_sem, condPV, seenPV, brPV, hk, ix_map, cc19]) (fun h => by cases h) (fun _ => ?_)
            refine aw_reg rfl fun Khk28 hk28 => ?_
            simp only [go_sem, condPV, seenPV, brPV, hk, ix_map]
            refine bg_split (fun cc29 => ?_) (fun cc29 => ?_)
            · have h4 : s.height < (ix c k).after := by simpa using cc29
              simp only [go_sem, condPV, seenPV, brPV, hk, ix_map, cc29]
              refine hk28 _ ?_
              refine aw_cond (b := true) (by simp only [go_sem, condPV, seenPV, brPV, hk, ix_map, cc29]) (fun _ => ?_) (fun h => by cases h)
              refine aw_reg rfl fun Khk30 hk30 => ?_
              simp only [go_sem, condPV, seenPV, brPV, hk, ix_map]
              refine hk30 _ ?_
              refine aw_ret ?_
              refine ret_tmp ?_ trivial
              simp only [go_sem, condPV, seenPV, brPV, hk, ix_map]
              have e : opensN c k s sumF = 23 := by
                rw [hop, if_pos (.inl h4)]
              rw [e]
              simp [errV, AV.le]
            · have h4 : ¬ s.height < (ix c k).after := by simpa using cc29
              simp only [go_sem, condPV, seenPV, brPV, hk, ix_map, cc29]
              refine hk28 _ ?_
              refine aw_cond rfl (fun cc31 => ?_) (fun cc31 => ?_)
              · have h5 : s.age < (ix c k).older := by simpa using cc31
                refine aw_reg rfl fun Khk32 hk32 => ?_
                simp only [go_sem, condPV, seenPV, brPV, hk, ix_map]
                refine hk32 _ ?_
                refine aw_ret ?_
                refine ret_tmp ?_ trivial
                simp only [go_sem, condPV, seenPV, brPV, hk, ix_map]
                have e : opensN c k s sumF = 23 := by
                  rw [hop, if_pos (.inr h5)]
                rw [e]
                simp [errV, AV.le]
              · have h5 : ¬ s.age < (ix c k).older := by simpa using cc31
                refine aw_skip ?_
                refine hk14 _ ?_
                refine aw_reg rfl fun Khk33 hk33 => ?_
                simp only [go_sem, condPV, seenPV, brPV, hk, ix_map]
                refine hk33 _ ?_
                refine aw_ret ?_
                refine ret_tmp ?_ trivial
                simp only [go_sem, condPV, seenPV, brPV, hk, ix_map]
                have e : opensN c k s sumF = 0 := by
                  rw [hop, if_neg (by rintro (h | h); exact h4 h; exact h5 h)]
                rw [e]
                simp [errV, AV.le]

theorem opens_calls (c : List Br) (i : Int) (s : Sn) (sumF : List Int → List Int) (hc : brsOk c) (hs : s.signed.length < 1000000) (hL : (∃ b ∈ c, b.lock ≠ zeros) → ACalls Tryd.prog 43 [.p (.sl 1 (s.secret.map B))] [] (.p (.ints .u8 32 (sumF s.secret))) []) :
    ACalls Tryd.prog 16 [.p (condPV c), .p (.v (.int .i64 i)), .p (seenPV s)] [] (.p (.v (errV (opensN c i s sumF)))) [] := by
  cases h : condOk c with
  | false => exact opens_bad c i s sumF hc h
  | true => exact opens_ok c i s sumF hc hs h hL

end Go.Proofs.YtlfincjibiihaaaDoor
end

section
namespace Go.Proofs.YtlfincjibiihaaaDoor
open Go Go.Av Go.Proofs
set_option linter.unusedVariables false
set_option linter.unusedSimpArgs false
set_option linter.unusedSectionVars false
theorem refAll_calls (l : List Int) (hl : l.length < 1000000) : ACalls Tryd.prog 20 [.p (.sl 1 (l.map I))] [] (.p (condPV [allBr l])) [] := by
  have := refAll_loop l hl
  rw [insN_dedup] at this
  exact this
theorem dedup21 : dedupI (sortI [2, 1]) = [1, 2] := by rw [← insN_dedup]; decide
def brs12 : List Br := [⟨[1, 2], List.replicate 32 0, 0, 0⟩]
theorem brsOk_one : brsOk brs12 := ⟨by simp [brs12], fun b hb => by simp [brs12] at hb; subst hb; simp⟩
theorem all21 : ACalls Tryd.prog 17 [.p (.sl 1 [I 2, I 1])] [] (.p (condPV brs12)) [] := by
  have := all_calls [2, 1] (by simp)
  rw [allBr, dedup21] at this
  exact this
theorem opens12 : ACalls Tryd.prog 16 [.p (condPV brs12), .p (.v (.int .i64 0)), .p (seenPV ⟨[1, 2], [], 0, 0⟩)] [] (.p (.v .nilIface)) [] := by
  have := opens_calls brs12 0 ⟨[1, 2], [], 0, 0⟩ id brsOk_one (by simp) (by rintro ⟨b, hb, h⟩; simp [brs12] at hb; subst hb; exact absurd rfl h)
  exact this
theorem opens1 : ACalls Tryd.prog 16 [.p (condPV brs12), .p (.v (.int .i64 0)), .p (seenPV ⟨[1], [], 0, 0⟩)] [] (.p (.v (errV 21))) [] := by
  have := opens_calls brs12 0 ⟨[1], [], 0, 0⟩ id brsOk_one (by simp) (by rintro ⟨b, hb, h⟩; simp [brs12] at hb; subst hb; exact absurd rfl h)
  exact this
theorem le_seen {a x y : PV} : AV.le (.p (.st [a, .v (.slice none 0 0), x, y])) (.p (.st [a, .sl 1 [], x, y])) = True :=
  eq_true (.inr (.inr (.inr (.inr ⟨.st [a, .v (.slice none 0 0), x, y], .st [a, .sl 1 [], x, y], rfl, .st rfl fun i f g hf hg => by
    match i, hf, hg with
    | 0, hf, hg => cases hf; cases hg; exact .refl _
    | 1, hf, hg => cases hf; cases hg; exact .nil _
    | 2, hf, hg => cases hf; cases hg; exact .refl _
    | 3, hf, hg => cases hf; cases hg; exact .refl _
    | _ + 4, hf, _ => simp at hf, rfl⟩))))

set_option maxRecDepth 100000 in
set_option maxHeartbeats 2000000 in
theorem sure_calls  : ACalls Tryd.prog 11 [] [] (.p (.v (.bool true))) [] := by
  refine acalls_of (fn := Tryd.f11) Tryd.func11 rfl (by decide) (n := 32) rfl (by simp) (by simp) (by simp [idsOf]) (by simp [idsOf]) ?_
  simp only [argT]
  refine aw_reg rfl fun Khk1 hk1 => ?_
  simp only [go_sem, List.length_cons, List.length_nil, Nat.zero_add, Int.natCast_one, decide_true, condPV, brPV, seenPV, brs12, List.map_cons, List.map_nil, I, le_seen]
  refine hk1 _ ?_
  refine aw_reg rfl fun Khk2 hk2 => ?_
  simp only [go_sem, List.length_cons, List.length_nil, Nat.zero_add, Int.natCast_one, decide_true, condPV, brPV, seenPV, brs12, List.map_cons, List.map_nil, I, le_seen]
  refine bcall0 (all21) (by simp only [go_sem, List.length_cons, List.length_nil, Nat.zero_add, Int.natCast_one, decide_true, condPV, brPV, seenPV, brs12, List.map_cons, List.map_nil, I, le_seen]) rfl (by simp only [go_sem, List.length_cons, List.length_nil, Nat.zero_add, Int.natCast_one, decide_true, condPV, brPV, seenPV, brs12, List.map_cons, List.map_nil, I, le_seen]) ?_
  simp only [go_sem, List.length_cons, List.length_nil, Nat.zero_add, Int.natCast_one, decide_true, condPV, brPV, seenPV, brs12, List.map_cons, List.map_nil, I, le_seen]
  refine hk2 _ ?_
  refine aw_reg rfl fun Khk3 hk3 => ?_
  simp only [go_sem, List.length_cons, List.length_nil, Nat.zero_add, Int.natCast_one, decide_true, condPV, brPV, seenPV, brs12, List.map_cons, List.map_nil, I, le_seen]
  refine bcall0 (opens12) (by simp only [go_sem, List.length_cons, List.length_nil, Nat.zero_add, Int.natCast_one, decide_true, condPV, brPV, seenPV, brs12, List.map_cons, List.map_nil, I, le_seen]) rfl (by simp only [go_sem, List.length_cons, List.length_nil, Nat.zero_add, Int.natCast_one, decide_true, condPV, brPV, seenPV, brs12, List.map_cons, List.map_nil, I, le_seen]) ?_
  simp only [go_sem, List.length_cons, List.length_nil, Nat.zero_add, Int.natCast_one, decide_true, condPV, brPV, seenPV, brs12, List.map_cons, List.map_nil, I, le_seen]
  refine bcall0 (opens1) (by simp only [go_sem, List.length_cons, List.length_nil, Nat.zero_add, Int.natCast_one, decide_true, condPV, brPV, seenPV, brs12, List.map_cons, List.map_nil, I, le_seen]) rfl (by simp only [go_sem, List.length_cons, List.length_nil, Nat.zero_add, Int.natCast_one, decide_true, condPV, brPV, seenPV, brs12, List.map_cons, List.map_nil, I, le_seen]) ?_
  simp only [go_sem, List.length_cons, List.length_nil, Nat.zero_add, Int.natCast_one, decide_true, condPV, brPV, seenPV, brs12, List.map_cons, List.map_nil, I, le_seen]
  refine bcall0 (num_calls 21) (by simp only [go_sem, List.length_cons, List.length_nil, Nat.zero_add, Int.natCast_one, decide_true, condPV, brPV, seenPV, brs12, List.map_cons, List.map_nil, I, le_seen]) rfl (by simp only [go_sem, List.length_cons, List.length_nil, Nat.zero_add, Int.natCast_one, decide_true, condPV, brPV, seenPV, brs12, List.map_cons, List.map_nil, I, le_seen]) ?_
  simp only [go_sem, List.length_cons, List.length_nil, Nat.zero_add, Int.natCast_one, decide_true, condPV, brPV, seenPV, brs12, List.map_cons, List.map_nil, I, le_seen]
  refine bcall0 (ints_calls [1, 2] [1, 2] (by simp)) (by simp only [go_sem, List.length_cons, List.length_nil, Nat.zero_add, Int.natCast_one, decide_true, condPV, brPV, seenPV, brs12, List.map_cons, List.map_nil, I, le_seen]) rfl (by simp only [go_sem, List.length_cons, List.length_nil, Nat.zero_add, Int.natCast_one, decide_true, condPV, brPV, seenPV, brs12, List.map_cons, List.map_nil, I, le_seen]) ?_
  simp only [go_sem, List.length_cons, List.length_nil, Nat.zero_add, Int.natCast_one, decide_true, condPV, brPV, seenPV, brs12, List.map_cons, List.map_nil, I, le_seen]
  refine hk3 _ ?_
  refine aw_ret ?_
  refine ret_tmp ?_ trivial
  simp only [go_sem, List.length_cons, List.length_nil, Nat.zero_add, Int.natCast_one, decide_true, condPV, brPV, seenPV, brs12, List.map_cons, List.map_nil, I, le_seen]

end Go.Proofs.YtlfincjibiihaaaDoor
end

section
namespace Go.Proofs.YtlfincjibiihaaaDoor
open Go Go.Av Go.Proofs
set_option linter.unusedVariables false
set_option linter.unusedSimpArgs false
set_option linter.unusedSectionVars false
theorem rng_uint (x : Int) : ∀ n ∈ uintB x, 0 ≤ n ∧ n < 256 := fun n hn => by
  have := wid_le x
  rcases List.mem_cons.1 hn with e | e
  · subst e; omega
  · unfold dgs at e
    obtain ⟨k, _, e⟩ := List.mem_map.1 e
    subst e
    unfold byteAt
    omega
def bRng (b : Br) : Prop := ∀ n ∈ b.lock, 0 ≤ n ∧ n < 256
theorem rng_br {b : Br} (h : bRng b) : ∀ n ∈ brB b, 0 ≤ n ∧ n < 256 := fun n hn => by
  simp only [brB, List.mem_append, or_assoc, keysB, List.mem_flatMap] at hn
  rcases hn with e | ⟨k, _, e⟩ | e | e | e
  · exact rng_uint _ n e
  · exact rng_uint _ n e
  · exact h n e
  · exact rng_uint _ n e
  · exact rng_uint _ n e
theorem rng_put {c : List Br} (h : ∀ b ∈ c, bRng b) : ∀ n ∈ putB c, 0 ≤ n ∧ n < 256 := fun n hn => by
  simp only [putB, condB, List.mem_append, List.mem_flatMap, List.take_length] at hn
  rcases hn with e | ⟨b, hb, e⟩
  · exact rng_uint _ n e
  · exact rng_br (h b hb) n e
theorem dedup_len (l : List Int) : (dedupI (sortI l)).length ≤ l.length := by
  rw [← insN_dedup]
  exact insN_len l l.length (Nat.le_refl _)
theorem cOk_all {l : List Int} (hl : l.length ≤ 200) : cOk [allBr l] := by
  have := dedup_len l
  refine ⟨by simp [csz, allBr]; omega, fun b hb => ?_⟩
  simp at hb
  subst hb
  simp [allBr]
theorem rng_all (l : List Int) : ∀ b ∈ [allBr l], bRng b := fun b hb => by
  simp at hb
  subst hb
  intro n hn
  simp [allBr] at hn
  omega
theorem put_str (l : List Int) : ∃ b : List UInt8, (putB [allBr l]).map B = u8s b := u8s_ex (rng_put (rng_all l))

set_option maxRecDepth 100000 in
set_option maxHeartbeats 2000000 in
theorem condAll_calls (l : List Int) : ACalls Tryd.prog 4 [.p (.sl 1 (l.map I))] [] (.p (.v (.bool true))) [] := by
  refine acalls_of (fn := Tryd.f4) Tryd.func4 rfl (by decide) (n := 30) rfl (by simp) (by simp) (by simp [idsOf]) (by simp [idsOf]) ?_
  simp only [argT]
  refine aw_reg rfl fun Khk1 hk1 => ?_
  simp only [go_sem, decide_true, beq_self_eq_true, List.nil_append, condPV, List.map_cons, List.map_nil]
  refine hk1 _ ?_
  refine aw_seq fun Khk2 hk2 => ?_
  refine aw_reg rfl fun Khk3 hk3 => ?_
  simp only [go_sem, decide_true, beq_self_eq_true, List.nil_append, condPV, List.map_cons, List.map_nil]
  refine hk3 _ ?_
  refine aw_cond rfl (fun cc4 => ?_) (fun cc4 => ?_)
  · refine aw_reg rfl fun Khk5 hk5 => ?_
    simp only [go_sem, decide_true, beq_self_eq_true, List.nil_append, condPV, List.map_cons, List.map_nil]
    refine bcall0 (sure_calls) (by simp only [go_sem, decide_true, beq_self_eq_true, List.nil_append, condPV, List.map_cons, List.map_nil]) rfl (by simp only [go_sem, decide_true, beq_self_eq_true, List.nil_append, condPV, List.map_cons, List.map_nil]) ?_
    simp only [go_sem, decide_true, beq_self_eq_true, List.nil_append, condPV, List.map_cons, List.map_nil]
    refine hk5 _ ?_
    refine aw_ret ?_
    refine ret_tmp ?_ trivial
    simp only [go_sem, decide_true, beq_self_eq_true, List.nil_append, condPV, List.map_cons, List.map_nil]
  · have h2 : l.length ≤ 200 := by simp at cc4; omega
    have hcok := cOk_all h2
    obtain ⟨bb, hbb⟩ := put_str l
    refine aw_skip ?_
    refine hk2 _ ?_
    refine aw_reg rfl fun Khk6 hk6 => ?_
    simp only [go_sem, decide_true, beq_self_eq_true, List.nil_append, condPV, List.map_cons, List.map_nil]
    refine hk6 _ ?_
    refine aw_reg rfl fun Khk7 hk7 => ?_
    simp only [go_sem, decide_true, beq_self_eq_true, List.nil_append, condPV, List.map_cons, List.map_nil]
    refine ⟨by omega, ?_⟩
    refine hk7 _ ?_
    refine aw_reg rfl fun Khk8 hk8 => ?_
    simp only [go_sem, decide_true, beq_self_eq_true, List.nil_append, condPV, List.map_cons, List.map_nil]
    refine bcall0 (all_calls l (by omega)) (by simp only [go_sem, decide_true, beq_self_eq_true, List.nil_append, condPV, List.map_cons, List.map_nil]) rfl (by simp only [go_sem, decide_true, beq_self_eq_true, List.nil_append, condPV, List.map_cons, List.map_nil]) ?_
    simp only [go_sem, decide_true, beq_self_eq_true, List.nil_append, condPV, List.map_cons, List.map_nil]
    refine hk8 _ ?_
    refine aw_draw _ (by kernel_rfl) rfl rfl fun Jhk9 hk9 => ?_
    simp only [go_sem, decide_true, beq_self_eq_true, List.nil_append, condPV, List.map_cons, List.map_nil]
    refine ccall0 (put_calls [] [allBr l] (by simp) hcok) (by simp only [go_sem, decide_true, beq_self_eq_true, List.nil_append, condPV, List.map_cons, List.map_nil]) rfl (by simp only [go_sem, decide_true, beq_self_eq_true, List.nil_append, condPV, List.map_cons, List.map_nil]) ?_
    simp only [go_sem, decide_true, beq_self_eq_true, List.nil_append, condPV, List.map_cons, List.map_nil]
    refine ccust (cust_str (l := bb) (xs := (putB [allBr l]).map B) (by simp only [go_sem, decide_true, beq_self_eq_true, List.nil_append, condPV, List.map_cons, List.map_nil]) hbb isStr9 el26 ik5) (by simp only [go_sem, decide_true, beq_self_eq_true, List.nil_append, condPV, List.map_cons, List.map_nil]) (by simp only [go_sem, decide_true, beq_self_eq_true, List.nil_append, condPV, List.map_cons, List.map_nil]) ?_
    simp only [go_sem, decide_true, beq_self_eq_true, List.nil_append, condPV, List.map_cons, List.map_nil]
    refine ccall0 (refAll_calls l (by omega)) (by simp only [go_sem, decide_true, beq_self_eq_true, List.nil_append, condPV, List.map_cons, List.map_nil]) rfl (by simp only [go_sem, decide_true, beq_self_eq_true, List.nil_append, condPV, List.map_cons, List.map_nil]) ?_
    simp only [go_sem, decide_true, beq_self_eq_true, List.nil_append, condPV, List.map_cons, List.map_nil]
    refine ccall0 (refPut_calls [] [allBr l] (by simp) hcok) (by simp only [go_sem, decide_true, beq_self_eq_true, List.nil_append, condPV, List.map_cons, List.map_nil]) rfl (by simp only [go_sem, decide_true, beq_self_eq_true, List.nil_append, condPV, List.map_cons, List.map_nil]) ?_
    simp only [go_sem, decide_true, beq_self_eq_true, List.nil_append, condPV, List.map_cons, List.map_nil]
    refine ccust (cust_str (l := bb) (xs := (putB [allBr l]).map B) (by simp only [go_sem, decide_true, beq_self_eq_true, List.nil_append, condPV, List.map_cons, List.map_nil]) hbb isStr9 el26 ik5) (by simp only [go_sem, decide_true, beq_self_eq_true, List.nil_append, condPV, List.map_cons, List.map_nil]) (by simp only [go_sem, decide_true, beq_self_eq_true, List.nil_append, condPV, List.map_cons, List.map_nil]) ?_
    simp only [go_sem, decide_true, beq_self_eq_true, List.nil_append, condPV, List.map_cons, List.map_nil]
    refine ccall0 (ints_calls l l (by omega)) (by simp only [go_sem, decide_true, beq_self_eq_true, List.nil_append, condPV, List.map_cons, List.map_nil]) rfl (by simp only [go_sem, decide_true, beq_self_eq_true, List.nil_append, condPV, List.map_cons, List.map_nil]) ?_
    simp only [go_sem, decide_true, beq_self_eq_true, List.nil_append, condPV, List.map_cons, List.map_nil]
    refine ccall0 (sure_calls) (by simp only [go_sem, decide_true, beq_self_eq_true, List.nil_append, condPV, List.map_cons, List.map_nil]) rfl (by simp only [go_sem, decide_true, beq_self_eq_true, List.nil_append, condPV, List.map_cons, List.map_nil]) ?_
    simp only [go_sem, decide_true, beq_self_eq_true, List.nil_append, condPV, List.map_cons, List.map_nil]
    refine hk9 _ _ _ ⟨by kernel_rfl, by first | exact trivial | (simp only [go_sem, decide_true, beq_self_eq_true, List.nil_append, condPV, List.map_cons, List.map_nil])⟩ ?_
    refine aw_ret ?_
    refine ret_tmp ?_ trivial
    simp only [go_sem, decide_true, beq_self_eq_true, List.nil_append, condPV, List.map_cons, List.map_nil]

end Go.Proofs.YtlfincjibiihaaaDoor
end

section
namespace Go.Proofs.YtlfincjibiihaaaDoor
open Go Go.Av Go.ChangeShapes Go.WideShapes Go.RowKit
set_option linter.unusedVariables false
set_option maxRecDepth 100000
theorem own : ownKnob Tryd.prog.godebug = none := by kernel_rfl
theorem laidOut : laidOutB Tryd.prog = true := by kernel_rfl
theorem gErr : Tryd.prog.globalNamed "errors.errorType" = some 0 := by kernel_rfl
theorem gOrd : Tryd.prog.globalNamed "bayou/blake.order" = some 2 := by kernel_rfl
theorem tOrd : (Tryd.prog.globals[2]?).map (·.type) = some 208 := by kernel_rfl
theorem rtypeAt : (Tryd.prog.cutTypes.find? (·.1 == "internal/reflectlite.rtype")).map (·.2) = some 172 := by kernel_rfl
theorem typesSize : Tryd.prog.types.size = 243 := by kernel_rfl
theorem oneRow : ((List.range 243).filter fun t => Tryd.prog.rowNamed t [101, 114, 114, 111, 114]) = [39] := by kernel_rfl
theorem errHandle : typeHandle Tryd.prog 39 = .pointer (some ⟨3, 39, none⟩) := by kernel_rfl
abbrev laidL : List (String × DataW Unit) := [("errors.errorType", Rows.laid_errors_errorType), ("bayou/blake.order", Rows.laid_bayou_blake_order)]
theorem orderD : (Rows.laid_bayou_blake_order : DataW Unit) = .agg (orderL.map fun l => .agg (l.map fun z => .lit (.int .u8 z))) := by
  simp only [Rows.laid_bayou_blake_order, orderL, List.map_cons, List.map_nil]
theorem cOrd0 : Tryd.prog.cellsOf 5 = 1 := by kernel_rfl
theorem cOrd1 : Tryd.prog.cellsOf 207 = 16 := by kernel_rfl
theorem cOrd2 : Tryd.prog.cellsOf 208 = 10 * 16 := by kernel_rfl
/-- What the listed variables hold, as trees. -/
theorem glob_of_laid {W : World} (h : laidMetH Tryd.prog laidL W) : GlobOk W (fun _ _ => False) := by
  have h' : laidMet Tryd.prog [("bayou/blake.order", Rows.laid_bayou_blake_order)] W ∧ handlesMet Tryd.prog [("errors.errorType", Rows.laid_errors_errorType)] W := h
  obtain ⟨⟨ps, ⟨g, t, cs, fuel, p, q, e1, e2, e3, e4, _, _⟩, _, _⟩, hh⟩ := h'
  obtain ⟨name, u, ty, f1, f2, f3, f4, f5⟩ := hh _ (List.mem_singleton.2 rfl)
  have en : name = [101, 114, 114, 111, 114] := (Option.some.inj f1).symm
  subst en
  obtain rfl := Option.some.inj (rtypeAt.symm.trans f2)
  have hm : ty ∈ (List.range 243).filter fun t => Tryd.prog.rowNamed t [101, 114, 114, 111, 114] := List.mem_filter.2 ⟨List.mem_range.2 (by rw [← typesSize]; exact f3), f4⟩
  rw [oneRow] at hm
  obtain rfl := List.mem_singleton.1 hm
  rw [errHandle] at f5
  obtain rfl := Option.some.inj (gOrd.symm.trans e1)
  obtain rfl := Option.some.inj (tOrd.symm.trans e2)
  rw [orderD] at e4
  intro g y hg
  have hg' : lkG [(0, errTypePV), (2, orderPV)] g = some y := hg
  simp only [lkG] at hg'
  split at hg'
  · rename_i hgg
    injection hg' with hg'
    subst hgg; subst hg'
    refine ⟨[_], .v rfl, fun j x hj => ⟨?_, fun h => h⟩⟩
    have hj0 : j = 0 := by have := (List.getElem?_eq_some_iff.1 hj).1; simpa using this
    subst hj0
    simp at hj
    subst hj
    simpa using World.var?_cell gErr f5 0
  · split at hg'
    · rename_i hgg
      injection hg' with hg'
      subst hgg; subst hg'
      refine ⟨cs.toList, rep_table Tryd.underlying208 Tryd.underlying207 Tryd.underlying5 cOrd0 cOrd1 cOrd2 e4, fun j x hj => ⟨?_, fun h => h⟩⟩
      have := World.var?_cell e1 e3 (0 + j)
      rw [this]
      simpa using hj
    · cases hg'
/-- The door's own heap meets the condition. -/
theorem door_met (os : Os) (args : Array Value) : laidMetH Tryd.prog laidL ((World.doorLaid Tryd.prog 400 os).forCall (fun _ _ => 0) ⟨#[], args, []⟩).memory :=
  laidMetH_of_parts3 (fuel := 8) (laidMet_of_run' 8 (by kernel_rfl) (by kernel_rfl)) (by kernel_rfl) (by kernel_rfl)
end Go.Proofs.YtlfincjibiihaaaDoor
end

section
namespace Go.Proofs.YtlfincjibiihaaaDoor
open Go Go.Av Go.ChangeShapes Go.WideShapes Go.RowKit
set_option linter.unusedVariables false
set_option maxRecDepth 100000
namespace CondAll
/-- The row of a law with one argument. -/
theorem lifted (hcall : ∀ y : PV, Fits (.sl 1 (.int .i64)) y → ACalls Tryd.prog 4 [.p y] [] (.p (.v (.bool true))) []) (os : Os) (started : os.Started) (H : Type) (enc : TypeId × Value → H) :
    ReturnsInHanded {} Tryd.checked os 4 .any (fun w args => (Rows.condAllSpec.pre enc Tryd.prog Tryd.f4 [] false w args ∧ laidMetH Tryd.prog laidL w) ∧ sizedMet enc Tryd.prog Tryd.f4 (OpenSpec.ofChange Rows.condAllSpec) false w args)
      (Rows.condAllSpec.post enc Tryd.prog Tryd.f4 false true false false) := by
  refine returnsInHanded_of_change_and (C := Tryd.checked) (X := fun w _ => laidMetH Tryd.prog laidL w) (fun _ _ _ hh h => h.of_heap hh) own started (by kernel_rfl) Tryd.func4
    (ChangeSpec.witness_at (enc := enc) (C := Tryd.checked) (os := os) (X := fun w _ => laidMetH Tryd.prog laidL w) false (World.doorLaid Tryd.prog 400 os) #[.slice none 0 0] 8 rfl (by kernel_rfl) (by kernel_rfl) (by kernel_rfl) (by kernel_rfl) (by kernel_rfl) (door_met os _)) ?_
  intro W base args ds gs before hval0 hW _ _ hL _
  have hval : ∀ (j : Nat) t v, Tryd.f4.params[j]? = some t → args[j]? = some v → Value.okWide Tryd.prog W .any base t v := hval0
  have hW' := hW
  obtain ⟨p, q, hA0, hV, rfl, hfz, hnd⟩ := hW
  have hA : DataW.TrodAll enc Tryd.prog W 0 (fun _ => true) true Tryd.f4.params.toList args.toList ds p := hA0
  rw [Tryd.params4] at hA hval
  obtain ⟨v0, vs0, d0, ds0, p0, q0, hargs, rfl, rfl, h0, r0⟩ := trodAll_cons hA
  obtain ⟨rfl, rfl, rfl⟩ := trodAll_nil r0
  obtain rfl : args = #[v0] := by cases args; simp_all
  obtain ⟨rfl, rfl⟩ := trodVars_none hV
  obtain ⟨y0, k0, ft0⟩ := repV_of_trod (A := fun _ _ => False) (m := fun _ => default) (Hp := fun _ => .dead) (n := 8) (pl := (.sl 1 (.int .i64))) (fun _ _ h => h) (by kernel_rfl) (hval 0 25 v0 rfl rfl) h0
  have hlt : ∀ x ∈ p0, x.block < W.heap.size := by obtain ⟨m, hm⟩ := h0; exact DataW.trod_lt m _ _ _ hm
  refine ((hcall y0 ft0).closed (vals := [v0]) rfl (fun i x a hx ha => by
    cases i with
    | zero => simp at hx ha; subst hx; subst ha; exact k0
    | succ i => simp at hx) (glob_of_laid hL)).mono fun e W' ⟨he, bel⟩ => ?_
  subst he
  exact ⟨_, rfl, _, _, _, [], _, [], hW', trodAll_mk1 (shut_bool Tryd.underlying4 _), trodAll_cons_mk (Below.trod laidOut (by kernel_rfl) (of_decide_eq_true (by kernel_rfl)) h0 bel hlt) trodAll_mk0, rfl, bel.frame _, fun h => by cases h⟩
theorem over (hcall : ∀ y : PV, Fits (.sl 1 (.int .i64)) y → ACalls Tryd.prog 4 [.p y] [] (.p (.v (.bool true))) []) : Rows.CondAllSaid :=
  OpenClaim.holds_of_wide 4 Tryd.f4 rfl rfl rfl rfl rfl rfl rfl ⟨rfl, rfl, rfl, rfl, rfl⟩ rfl rfl rfl rfl rfl (by kernel_rfl) Tryd.func4 (by kernel_rfl)
    (of_decide_eq_true (by kernel_rfl)) (by unfold Func.isWrapper; first | (rw [if_pos (by decide +kernel)]; kernel_rfl) | (rw [if_neg (by decide +kernel)]; exact ⟨rfl, rfl⟩))
    (fun os started H enc _ => lifted hcall os started H enc)
theorem card (hcall : ∀ y : PV, Fits (.sl 1 (.int .i64)) y → ACalls Tryd.prog 4 [.p y] [] (.p (.v (.bool true))) []) : Rows.CondAllCardSaid :=
  Claim7.holds_tied_plain_at .later [] [.handle, .data] true (true, "ee778519b9a3556ab26cb4b1a00ee2d634fc14d26379b4494e5fb673a2c0ac9a") true
    (over hcall) (fun _ h => by cases h) (by kernel_rfl) (fun _ h => by cases h) condAll_row_tie rfl ⟨rfl, rfl⟩ (by kernel_rfl) rfl
    (fun f fn hf hfn => by
      obtain rfl : f = 4 := Option.some.inj ((show Tryd.prog.funcNamed "bayou/bayoulaw04.CondAll" = some 4 by kernel_rfl).symm.trans hf) |>.symm
      obtain rfl : fn = Tryd.f4 := (Option.some.inj (Tryd.func4.symm.trans hfn)).symm
      exact ⟨by kernel_rfl, fun j t ht => by
        rw [Tryd.params4] at ht
        have h3 : t = 25 := by
          rcases j with _ | j
          · simpa using ht.symm
          · simp at ht
        subst h3
        exact (show Tryd.prog.wantsStandIn 25 = false by kernel_rfl)⟩)
    (by kernel_rfl)
end CondAll
end Go.Proofs.YtlfincjibiihaaaDoor
end

section
namespace Go.Proofs.YtlfincjibiihaaaDoor
open Go Go.Av Go.Proofs
set_option linter.unusedVariables false
set_option linter.unusedSimpArgs false
set_option linter.unusedSectionVars false
theorem fits_ints : ∀ {xs : List PV}, (∀ x ∈ xs, Fits (.int .i64) x) → ∃ l : List Int, xs = l.map I
  | [], _ => ⟨[], rfl⟩
  | x :: xs, h => by
    obtain ⟨l, e⟩ := fits_ints (xs := xs) fun y hy => h y (by simp [hy])
    have hx := h x (by simp)
    cases hx with
    | @int _ n _ => exact ⟨n :: l, by rw [e]; rfl⟩

theorem condAll : Rows.CondAllCardSaid := CondAll.card fun y hy => by
  cases hy with
  | sl h _ =>
    obtain ⟨l, rfl⟩ := fits_ints h
    exact condAll_calls l

end Go.Proofs.YtlfincjibiihaaaDoor
end
