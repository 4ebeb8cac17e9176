/- Part 2 of the proof of CondBack: the framework of abstract values and the walks over the functions that the law reaches. -/
import Derived.Test.YtlfincjibiihaaaDoorCondBack1
section
/- Abstract values: append does what its effect says. -/
namespace Go.Av
open Go
set_option linter.unusedVariables false
set_option linter.unusedSimpArgs false
set_option linter.unusedSectionVars false
variable [Globs]

section
variable {P : Program} {o : Oper} {s : St}

/-- The facts on a slice's element type that append wants. -/
structure AppTy (P : Program) (t el : TypeId) (k by' : Nat) : Prop where
  sl : elOf P t = some el
  ld : ∃ ag, ldOf P el = some (ag, k)
  zero : ∃ z, zeroPV P el = some z ∧ z.size = k
  chk : zeroChk P el
  pos : 0 < k
  bytes : bytesOf P el = some by'
  bpos : 0 < by'

theorem AppTy.info {t el : TypeId} {k by' : Nat} (h : AppTy P t el k by') : ∃ i z, P.info? el = some i ∧ i.zero = some z ∧ i.size = k ∧ i.bytes = by' ∧ z.cells.size = k := by
  obtain ⟨z, hz, hzs⟩ := h.zero
  obtain ⟨z', i, v, h1, h2, h3, h4, h5⟩ := h.chk
  rw [hz] at h1
  injection h1 with h1
  subst h1
  obtain ⟨ag, hl⟩ := h.ld
  have hs := (ldOf_run hl default).2
  simp [sizeOf, typeInfo, h2] at hs
  have hb := h.bytes
  simp [bytesOf, h2] at hb
  refine ⟨i, v, h2, h3, hs, hb, ?_⟩
  have := (RepP.flat (w := default) (A := fun _ _ => False) h5).len
  rw [← h4] at this
  simpa [hzs] using this

/-- Two rows of elements, one behind the other. -/
def glue (n : Nat) (g g' : Nat → List Value) : Nat → List Value := fun i => if i < n then g i else g' (i - n)
theorem glue_len {n m k : Nat} {g g' : Nat → List Value} (h : ∀ i, i < n → (g i).length = k) (h' : ∀ i, i < m → (g' i).length = k) : ∀ i, i < n + m → (glue n g g' i).length = k := by
  intro i hi
  unfold glue
  split
  · exact h i (by assumption)
  · exact h' _ (by omega)
theorem glue_rep {w : World} {A : Avoid} {g g' : Nat → List Value} {es xs : List PV} (h : ∀ (i : Nat) e, es[i]? = some e → RepP w A (g i) e) (h' : ∀ (i : Nat) e, xs[i]? = some e → RepP w A (g' i) e) :
    ∀ (i : Nat) e, (es ++ xs)[i]? = some e → RepP w A (glue es.length g g' i) e := by
  intro i e he
  unfold glue
  split
  · rename_i hi
    rw [List.getElem?_append_left hi] at he
    exact h i e he
  · rename_i hi
    rw [List.getElem?_append_right (by omega)] at he
    exact h' _ e he
theorem glue_flat {n m : Nat} {g g' : Nat → List Value} : (List.range (n + m)).flatMap (glue n g g') = (List.range n).flatMap g ++ (List.range m).flatMap g' := by
  rw [List.range_add, List.flatMap_append]
  congr 1
  · have : ∀ i ∈ List.range n, glue n g g' i = g i := fun i hi => by simp at hi; simp [glue, hi]
    rw [List.flatMap_def, List.flatMap_def, List.map_congr_left this]
  · rw [List.flatMap_def, List.flatMap_def, List.map_map]
    congr 1
    apply List.map_congr_left
    intro i _
    simp only [Function.comp, glue]
    rw [if_neg (by omega), Nat.add_sub_cancel_left]

theorem execOp_append (a : Act) {c : Call} {x y : Operand} {t : TypeId} (ho : o.op = .call c) (hc : c.callee = .builtin .append) (ha : c.args = #[x, y]) (ht : c.argTypes = #[t, t]) :
    execOp a.eval o = (do pure (Next.value (← Builtin.append_ #[t, t] o.type #[a.eval x, a.eval y]))) := by
  simp [execOp, ho, resolve, hc, ha, ht, invoke, builtin]

/-- Behind growth into a new row. -/
theorem grown_rep {w : World} {F : Avoid} {m : Nat → Reg} {H : Nat → AObj} {id n k cap : Nat} {cs : Array Value} {e : TypeId} {es : List PV} {g : Nat → List Value} {A : Avoid}
    (hH : SimH w F m H) (hn : es.length = n) (hcap : n ≤ cap) (hlen : ∀ i, i < n → (g i).length = k) (hrep : ∀ (i : Nat) e, es[i]? = some e → RepP w A (g i) e)
    (hk : Keeps w (w.drew.alloc (.cells cs e)) A (St.av F (upd m id ⟨w.heap.size, n * k, cap * k⟩) (upd H id (.tail n)))) (hcs : ∀ (q : Nat) (y : Value), ((List.range n).flatMap g)[q]? = some y → cs[q]? = some y) :
    RepV (w.drew.alloc (.cells cs e)) (St.av F (upd m id ⟨w.heap.size, n * k, cap * k⟩) (upd H id (.tail n))) (upd m id ⟨w.heap.size, n * k, cap * k⟩) (upd H id (.tail n)) (.slice (some ⟨w.heap.size, 0, none⟩) n cap) (.slt id k es) := by
  refine .one (.slt ?_ fun n' hn' => ?_) rfl
  · refine .sl g hn hcap hlen (fun i e he => (hrep i e he).move hk) fun i hi j y hj => ⟨?_, ?_⟩
    · have hlt := (List.getElem?_eq_some_iff.1 hj).1
      rw [hlen i hi] at hlt
      have := hcs (i * k + j) y (by rw [flat_get hlen hi hlt]; exact hj)
      rw [Nat.zero_add]
      exact (cell_of_row _ w.heap.size _ cs e (0, 0) (heap_alloc_new w.drew _)).trans this
    · have hlt := (List.getElem?_eq_some_iff.1 hj).1
      rw [hlen i hi] at hlt
      intro ha
      rcases ha with ha | ⟨j', ha⟩
      · have := (hH.far _ _ ha).1; omega
      · by_cases hj' : j' = id
        · subst hj'
          have h1 := ha.2.2.1
          rw [upd_same] at h1
          simp only [Nat.zero_add] at h1
          have : (i + 1) * k ≤ n * k := Nat.mul_le_mul_right _ hi
          rw [Nat.succ_mul] at this
          omega
        · have := hH.own_lt ((ownBy_upd_ne hj').1 ha)
          omega
  · rw [upd_same] at hn'
    injection hn' with hn'
    subst hn'
    refine ⟨by omega, fun _ => ?_⟩
    rw [upd_same]
    exact .inr ⟨_, _, _, _, rfl, hcap, rfl, by simp, by simp⟩

theorem does_append_slt {c : Call} {x y : Operand} {t el : TypeId} {k by' tok : Nat} {es xs : List PV} {tc : List (Nat × AObj)} (ho : o.op = .call c) (hc : c.callee = .builtin .append) (ha : c.args = #[x, y]) (hty : c.argTypes = #[t, t]) (hd : dstOk s o.dst)
    (T : AppTy P t el k by') (hx : s.ev x = .slt tok k es) (hH : s.H tok = .tail es.length) (hsrc : srcOf (s.ev y) k xs tc) (htc : ∀ p ∈ tc, s.H p.1 = p.2) (hb : (es.length + xs.length) * by' ≤ 140737488355328) {tt : List (Nat × AObj)} :
    Does P o s ⟨.slt tok k (es ++ xs), tt, [(tok, .tail (es.length + xs.length))], []⟩ :=
  Does.value hd fun w F m a hs => by
    obtain ⟨i, z, hi, hz, hsz, hby, hzs⟩ := T.info
    have hu := el_run T.sl
    have hv := hs.eval x
    rw [hx] at hv
    obtain ⟨hrep, hconn⟩ := hv.slt_val
    have hconn := (hconn _ hH).2 rfl
    obtain ⟨ad0, c0, e0, hc0⟩ := hrep.sl_form
    obtain ⟨g', hsr⟩ := src_of hs hsrc htc
    have hmods : mods s.H [(tok, .tail (es.length + xs.length))] = upd s.H tok (.tail (es.length + xs.length)) := rfl
    rw [hmods]
    have hne : ∀ n', es.length + xs.length = n' → n' ≤ 140737488355328 := fun n' h => by subst h; exact Nat.le_trans (Nat.le_mul_of_pos_right _ T.bpos) hb
    have hbig := hne _ rfl
    rcases Nat.eq_zero_or_pos xs.length with hx0 | hx0
    · -- nothing comes behind
      have hxs : xs = [] := List.eq_nil_of_length_eq_zero hx0
      subst hxs
      obtain ⟨ad1, c1, e1, _⟩ := hsr.form
      have hup : upd s.H tok (.tail (es.length + 0)) = s.H := by
        funext j
        by_cases hj : j = tok
        · subst hj; rw [upd_same, hH]; rfl
        · rw [upd_ne _ _ hj]
      simp only [List.length_nil, List.append_nil] at *
      rw [hup]
      refine ⟨a.eval x, w, m, ?_, hs, hv, Ev.refl _ _ _⟩
      rw [execOp_append a ho hc ha hty, Sem.run_bind, e0, e1, run_append_zero w t o.type el i hu hi _ _ _ _ _ hc0]
      rfl
    · obtain ⟨ad1, c1, e1, hl1, hcell1, hone1⟩ := hsr.news T.pos hx0
      -- the elements that are there
      obtain ⟨g, hg1, hg2, hg3⟩ : ∃ g : Nat → List Value, (∀ i, i < es.length → (g i).length = k) ∧ (∀ (i : Nat) e, es[i]? = some e → RepP w (St.av F m s.H) (g i) e) ∧
          ∀ b off, ad0 = some ⟨b, off, none⟩ → es.length = 0 ∨ ∀ i, i < es.length → Cells w (St.av F m s.H) b (off + i * k) (g i) := by
        rcases hrep.sl_inv' with ⟨rfl, _⟩ | ⟨b, off, c, g, e2, _, h2, h3, h4⟩
        · exact ⟨fun _ => [], fun i hi => absurd hi (by simp), fun i e he => absurd he (by simp), fun _ _ _ => .inl rfl⟩
        · rw [e0] at e2
          injection e2 with e2 _ _
          exact ⟨g, h2, h3, fun b' off' h => .inr (by rw [e2] at h; injection h with h; injection h with h5 h6; subst h5; subst h6; exact h4)⟩
      by_cases hroom : es.length + xs.length ≤ c0
      · -- in place
        rcases hconn with ⟨ad2, e2, _⟩ | ⟨b, off, n2, cap2, e2, hn2, hrb, hrlo, hrhi⟩
        · rw [e0] at e2; injection e2 with _ h1 h2; omega
        rw [e0] at e2
        injection e2 with e2 e3 e4
        subst e2; subst e3; subst e4
        have hob := hs.heap.obj tok
        unfold ObjOk at hob
        simp only [hH] at hob
        have hmul : (es.length + xs.length) * k ≤ c0 * k := Nat.mul_le_mul_right _ hroom
        have hxk : 0 < xs.length * k := Nat.mul_pos hx0 T.pos
        rw [Nat.add_mul] at hmul
        obtain ⟨cs, e', hgb, hsize⟩ := hob.2 (by omega)
        have hrun := run_append_room' (P := P) w t o.type el e' i hu hi b off es.length c0 cs (hrb ▸ hgb) ad1 xs.length c1 _ (by rw [hsz]; exact hl1) hcell1 hone1 hroom (by rw [hsz, hl1]; omega)
        rw [hsz, hl1] at hrun
        have hlo : (m tok).lo = off + es.length * k := hrlo
        let news := (List.range xs.length).flatMap g'
        have hlt0 : (cs.toList.take (off + es.length * k)).length = off + es.length * k := by simp; omega
        have hget : ∀ q, (cs.toList.take (off + es.length * k) ++ (List.range xs.length).flatMap g' ++ cs.toList.drop (off + es.length * k + xs.length * k)).toArray[q]? =
            if q < off + es.length * k then cs[q]? else if q < off + es.length * k + xs.length * k then ((List.range xs.length).flatMap g')[q - (off + es.length * k)]? else cs[q]? := by
          intro q
          simp only [List.getElem?_toArray]
          split
          · rename_i hq
            rw [List.append_assoc, List.getElem?_append_left (by rw [hlt0]; exact hq), List.getElem?_take_of_lt hq]
            simp
          · split
            · rw [List.append_assoc, List.getElem?_append_right (by rw [hlt0]; omega), List.getElem?_append_left (by rw [hlt0, hl1]; omega), hlt0]
            · rw [List.getElem?_append_right (by rw [List.length_append, hlt0, hl1]; omega), List.length_append, hlt0, hl1, List.getElem?_drop]
              rw [show off + es.length * k + xs.length * k + (q - (off + es.length * k + xs.length * k)) = q by omega]
              simp
        have htl := hs.heap.tail_in hH (n := es.length + xs.length) (by omega) hgb (cs' := (cs.toList.take (off + es.length * k) ++ (List.range xs.length).flatMap g' ++ cs.toList.drop (off + es.length * k + xs.length * k)).toArray)
          (by simp [hl1]; omega) (lo := off + (es.length + xs.length) * k) (by rw [hlo, Nat.add_mul]; omega) (by rw [hrhi, Nat.add_mul]; omega) hsize (by omega)
          (fun q hq => by
            rw [hget q, hlo] at *
            rw [Nat.add_mul] at hq
            rcases hq with hq | hq
            · rw [if_pos hq]
            · rw [if_neg (by omega), if_neg (by omega)])
        obtain ⟨t1, t2, t3⟩ := htl
        have hk2 := t2.keeps F
        rw [hrb] at t1 t2 t3 hk2
        refine ⟨.slice (some ⟨b, off, none⟩) (es.length + xs.length) c0, _, _, ?_, hs.step (fun _ => False) hk2 (fun _ hf => hf.elim) (fun j _ => t3 j) t1, ?_, t2⟩
        · rw [execOp_append a ho hc ha hty, Sem.run_bind, e0, e1, hrun]
          rfl
        · -- the slice reads as the old one and the new ones
          have hlens : ∀ i, i < es.length + xs.length → (glue es.length g g' i).length = k := glue_len hg1 hsr.len
          refine .one (.slt (.sl (glue es.length g g') (by simp) hroom hlens (glue_rep (fun i e he => (hg2 i e he).move hk2) (fun i e he => (hsr.rep i e he).move hk2)) fun i hi j u hj => ?_) fun n' hn' => ?_) rfl
          · have hjk := (List.getElem?_eq_some_iff.1 hj).1
            rw [hlens i hi] at hjk
            by_cases hie : i < es.length
            · have hj' : (g i)[j]? = some u := by simpa [glue, hie] using hj
              rcases hg3 b off rfl with h0 | h0
              · omega
              · exact hk2 _ _ _ (h0 i hie j u hj').1 (h0 i hie j u hj').2
            · have hj' : (g' (i - es.length))[j]? = some u := by simpa [glue, hie] using hj
              have hik : es.length * k ≤ i * k := Nat.mul_le_mul_right _ (by omega)
              have hik2 : (i + 1) * k ≤ (es.length + xs.length) * k := Nat.mul_le_mul_right _ (by omega)
              rw [Nat.succ_mul, Nat.add_mul] at hik2
              have hsub : (i - es.length) * k = i * k - es.length * k := Nat.sub_mul _ _ _
              refine ⟨?_, fun hA => ?_⟩
              · rw [cell_of_row _ _ _ _ e' (0, 0) (setRow_heap w _ _ _ _ _ (hrb ▸ hgb)), hget, if_neg (by omega), if_pos (by omega)]
                rw [show off + i * k + j - (off + es.length * k) = (i - es.length) * k + j by omega, flat_get hsr.len (by omega) hjk]
                exact hj'
              · have hmine : OwnBy m s.H tok b (off + i * k + j) := ⟨by simp [hH], hrb, by omega, by omega⟩
                rcases hA with hA | ⟨j', hA⟩
                · exact (hs.heap.far _ _ hA).2 ⟨tok, hmine⟩
                · by_cases hjt : j' = tok
                  · subst hjt
                    have h1 := hA.2.2.1
                    rw [upd_same] at h1
                    simp only [Nat.add_mul] at h1
                    omega
                  · exact hs.heap.disj j' tok _ _ hjt ((ownBy_upd_ne hjt).1 hA) hmine
          · rw [upd_same] at hn'
            injection hn' with hn'
            subst hn'
            refine ⟨by simp, fun _ => .inr ⟨_, _, _, _, rfl, hroom, by rw [upd_same], by rw [upd_same], by rw [upd_same]; exact hrhi⟩⟩
      · -- into a new row
        have hgr := grownCap_ge w (es.length + xs.length) c0 el
        have hbase : (ad0 = none → es.length = 0 ∧ c0 = 0) ∧ (∀ b, ad0 = some b → ∀ (j : Nat) v, ((List.range es.length).flatMap g)[j]? = some v → w.cell? (b.add j) = some v) := by
          rcases hconn with ⟨ad2, e2, _⟩ | ⟨b, off, n2, cap2, e2, _⟩
          · rw [e0] at e2
            injection e2 with h0 h1 h2
            refine ⟨fun _ => ⟨h1, h2⟩, fun b _ j v hj => ?_⟩
            rw [h1] at hj
            simp at hj
          · rw [e0] at e2
            injection e2 with h0 h1 h2
            refine ⟨fun h => (by rw [h0] at h; cases h), fun b' hb' j v hj => ?_⟩
            rw [h0] at hb'
            injection hb' with hb'
            subst hb'
            rcases hg3 b off h0 with h3 | h3
            · rw [h3] at hj; simp at hj
            · obtain ⟨q1, q2, q3⟩ := flat_mem hg1 hj
              have := (h3 _ q1 _ _ q3).1
              rw [Nat.add_assoc, show j / k * k + j % k = j from by rw [Nat.mul_comm]; exact Nat.div_add_mod j k] at this
              rw [Addr.add_lit]
              exact this
        have hfit := growslice_fits (bytes := i.bytes) (show c0 < es.length + xs.length by omega) (by rw [hby]; exact hb)
        have hrun := run_append_new (P := P) w t o.type el i z hu hi hz ad0 es.length c0 hbase.1 _ (by rw [hsz]; exact flat_length hg1) hbase.2 ad1 xs.length c1 _ (by rw [hsz]; exact hl1) hcell1 (by omega) (by omega) hfit
        have hsizes : ((List.range es.length).flatMap g).toArray.size = es.length * k ∧ ((List.range xs.length).flatMap g').toArray.size = xs.length * k := ⟨by simpa using flat_length hg1, by simpa using hl1⟩
        have htl := hs.heap.tail_new (id := tok) (n := es.length + xs.length) (e := el)
          (cs := ((List.range es.length).flatMap g).toArray ++ ((List.range xs.length).flatMap g').toArray ++ Builtin.zeroCells z.cells (grownCap w (es.length + xs.length) c0 el - (es.length + xs.length)))
          (lo := (es.length + xs.length) * k) (hi := grownCap w (es.length + xs.length) c0 el * k) (Nat.mul_le_mul_right _ hgr)
          (by
            rw [Array.size_append, Array.size_append, hsizes.1, hsizes.2, size_zeroCells, hzs, ← Nat.add_mul, ← Nat.add_mul]
            exact Nat.mul_le_mul_right _ (by omega))
          (.inr ⟨es.length, hH, by omega⟩)
        obtain ⟨t1, t2, t3, t4⟩ := htl
        have hk2 := t2.keeps F
        refine ⟨.slice (some ⟨w.heap.size, 0, none⟩) (es.length + xs.length) (grownCap w (es.length + xs.length) c0 el), _, _, ?_, hs.step (fun _ => False) hk2 (fun _ hf => hf.elim) (fun j _ => if hj : j = tok then hj ▸ t4 _ hH else t3 j hj) t1, ?_, t2⟩
        · rw [execOp_append a ho hc ha hty, Sem.run_bind, e0, e1, hrun]
          rfl
        · refine grown_rep hs.heap (by simp) hgr (glue_len hg1 hsr.len) (glue_rep hg2 hsr.rep) hk2 fun q u hq => ?_
          rw [glue_flat] at hq
          have hlt := (List.getElem?_eq_some_iff.1 hq).1
          rw [Array.getElem?_append_left (by rw [Array.size_append, hsizes.1, hsizes.2]; rw [List.length_append, flat_length hg1, hl1] at hlt; exact hlt)]
          rw [List.append_toArray, List.getElem?_toArray]
          exact hq

theorem does_append_nil {c : Call} {x y : Operand} {t el : TypeId} {k by' d : Nat} {xs : List PV} {tc : List (Nat × AObj)} (ho : o.op = .call c) (hc : c.callee = .builtin .append) (ha : c.args = #[x, y]) (hty : c.argTypes = #[t, t]) (hd : dstOk s o.dst)
    (T : AppTy P t el k by') {ab : Option Addr} (hx : s.ev x = .p (.v (.slice ab 0 0))) (hlt : d < 1000) (hdead : s.H d = .dead) (hn : noRef s.T s.H d) (hsrc : srcOf (s.ev y) k xs tc) (htc : ∀ p ∈ tc, s.H p.1 = p.2) (hb : xs.length * by' ≤ 140737488355328) {tt : List (Nat × AObj)} :
    Does P o s ⟨.slt d k xs, tt, [(d, .tail xs.length)], [d]⟩ :=
  Does.value hd fun w F m a hs => by
    obtain ⟨i, z, hi, hz, hsz, hby, hzs⟩ := T.info
    have hu := el_run T.sl
    have hv := hs.eval x
    rw [hx] at hv
    have e0 := hv.pv
    obtain ⟨g', hsr⟩ := src_of hs hsrc htc
    have hmods : mods s.H [(d, .tail xs.length)] = upd s.H d (.tail xs.length) := rfl
    rw [hmods]
    have hbig : xs.length ≤ 140737488355328 := Nat.le_trans (Nat.le_mul_of_pos_right _ T.bpos) hb
    rcases Nat.eq_zero_or_pos xs.length with hx0 | hx0
    · have hxs : xs = [] := List.eq_nil_of_length_eq_zero hx0
      subst hxs
      obtain ⟨ad1, c1, e1, _⟩ := hsr.form
      obtain ⟨t1, t2, t3⟩ := hs.heap.tail_none (n := 0) ⟨0, 0, 0⟩ rfl hdead hlt hn.2
      refine ⟨.slice ab 0 0, w, _, ?_, hs.step (fun j => j = d) (t2.keeps F) (fun j hj => hj ▸ hn) t3 t1, .one (.slt .sln fun n' hn' => ?_) rfl, t2⟩
      · simp only [List.length_nil] at e1
        rw [execOp_append a ho hc ha hty, Sem.run_bind, e0, e1, run_append_zero w t o.type el i hu hi ab _ 0 0 _ (Nat.le_refl _)]
        rfl
      · refine ⟨Nat.zero_le _, fun _ => .inl ⟨ab, rfl, by rw [upd_same]⟩⟩
    · obtain ⟨ad1, c1, e1, hl1, hcell1, hone1⟩ := hsr.news T.pos hx0
      have hgr := grownCap_ge w (0 + xs.length) 0 el
      have hfit := growslice_fits (bytes := i.bytes) (show 0 < 0 + xs.length by omega) (by rw [hby, Nat.zero_add]; exact hb)
      have hrun := run_append_new (P := P) w t o.type el i z hu hi hz ab 0 0 (fun _ => ⟨rfl, rfl⟩) [] (by simp) (fun b hb j v hj => by simp at hj) ad1 xs.length c1 _ (by rw [hsz]; exact hl1) hcell1 (by omega) (by omega) hfit
      simp only [Nat.zero_add] at hrun hgr
      have htl := hs.heap.tail_new (id := d) (n := xs.length) (e := el)
        (cs := ([] : List Value).toArray ++ ((List.range xs.length).flatMap g').toArray ++ Builtin.zeroCells z.cells (grownCap w xs.length 0 el - xs.length))
        (lo := xs.length * k) (hi := grownCap w xs.length 0 el * k) (Nat.mul_le_mul_right _ hgr)
        (by
          rw [Array.size_append, Array.size_append, size_zeroCells, hzs, show ((List.range xs.length).flatMap g').toArray.size = xs.length * k by simpa using hl1]
          simp only [List.size_toArray, List.length_nil, Nat.zero_add]
          rw [← Nat.add_mul]
          exact Nat.mul_le_mul_right _ (by omega))
        (.inl ⟨hdead, hlt, hn.2⟩)
      obtain ⟨t1, t2, t3, t4⟩ := htl
      have hk2 := t2.keeps F
      refine ⟨.slice (some ⟨w.heap.size, 0, none⟩) xs.length (grownCap w xs.length 0 el), _, _, ?_, hs.step (fun j => j = d) hk2 (fun j hj => hj ▸ hn) t3 t1, ?_, t2⟩
      · rw [execOp_append a ho hc ha hty, Sem.run_bind, e0, e1, hrun]
        rfl
      · refine grown_rep hs.heap rfl hgr hsr.len hsr.rep hk2 fun q u hq => ?_
        have hq2 := (List.getElem?_eq_some_iff.1 hq).1
        rw [hl1] at hq2
        rw [Array.getElem?_append_left (by simpa [hl1] using hq2)]
        simpa using hq

/-- The same, where the new row is the function's own. -/
theorem does_append_row {c : Call} {x y : Operand} {t el : TypeId} {by' d : Nat} {kd : IntKind} {l : List Int} {tc : List (Nat × AObj)} (ho : o.op = .call c) (hc : c.callee = .builtin .append) (ha : c.args = #[x, y]) (hty : c.argTypes = #[t, t]) (hd : dstOk s o.dst)
    (T : AppTy P t el 1 by') {ab : Option Addr} (hx : s.ev x = .p (.v (.slice ab 0 0))) (hlt : d < 1000) (hdead : s.H d = .dead) (hn : noRef s.T s.H d) (hsrc : srcOf (s.ev y) 1 (l.map fun n => PV.v (.int kd n)) tc) (htc : ∀ p ∈ tc, s.H p.1 = p.2) (hb : l.length * by' ≤ 140737488355328) (hx0 : 0 < l.length) {tt : List (Nat × AObj)} :
    Does P o s ⟨.osl d [] 1 l.length, tt, [(d, .row el (.p (.ints kd l.length l)))], [d]⟩ :=
  Does.value hd fun w F m a hs => by
    obtain ⟨i, z, hi, hz, hsz, hby, hzs⟩ := T.info
    have hu := el_run T.sl
    have hv := hs.eval x
    rw [hx] at hv
    have e0 := hv.pv
    obtain ⟨g', hsr⟩ := src_of hs hsrc htc
    have hbig : l.length ≤ 140737488355328 := Nat.le_trans (Nat.le_mul_of_pos_right _ T.bpos) hb
    have hlen : (l.map fun n => PV.v (.int kd n)).length = l.length := by simp
    obtain ⟨ad1, c1, e1, hl1, hcell1, hone1⟩ := hsr.news T.pos (by rw [hlen]; exact hx0)
    rw [hlen] at e1 hl1 hcell1
    have hgr := grownCap_ge w (0 + l.length) 0 el
    have hfit := growslice_fits (bytes := i.bytes) (show 0 < 0 + l.length by omega) (by rw [hby, Nat.zero_add]; exact hb)
    have hrun := run_append_new (P := P) w t o.type el i z hu hi hz ab 0 0 (fun _ => ⟨rfl, rfl⟩) [] (by simp) (fun b hb j v hj => by simp at hj) ad1 l.length c1 _ (by rw [hsz]; exact hl1) hcell1 (by omega) (by omega) hfit
    simp only [Nat.zero_add] at hrun hgr
    -- the new cells are the numbers
    have hnews : (List.range l.length).flatMap g' = l.map (Value.int kd) := by
      refine List.ext_getElem? fun j => ?_
      rcases Nat.lt_or_ge j l.length with hj | hj
      · have h1 := hsr.rep j (.v (.int kd l[j])) (by simp [hj])
        have h2 := h1.v_inv
        have h3 := flat_get (g := g') (n := l.length) (k := 1) (fun i hi => by have := hsr.len i (by rw [hlen]; exact hi); exact this) hj (show 0 < 1 by omega)
        simp only [Nat.mul_one, Nat.add_zero, h2] at h3
        rw [h3]
        simp [hj]
      · rw [List.getElem?_eq_none (by omega), List.getElem?_eq_none (by simpa using hj)]
    rw [hnews] at hrun
    have hs1 : Sim w.drew F m s a.tmps := hs.grow (Fr.drew w)
    have hrep : RepC w.drew (St.av F m s.H) m s.H (l.map (Value.int kd)) (.p (.ints kd l.length l)) := .p (.ints rfl)
    obtain ⟨t1, t2, t3⟩ := hs1.heap.newIn (T := s.T) (e := el) hdead hlt hn hrep (by simp [AV.refs]) (([] : List Value).toArray ++ (l.map (Value.int kd)).toArray ++ Builtin.zeroCells z.cells (grownCap w l.length 0 el - l.length)) (by simp)
    have hev : Ev w m s.H w.drew m s.H := Ev.of_fr (Fr.drew w)
    refine ⟨.slice (some ⟨w.heap.size, 0, none⟩) l.length (grownCap w l.length 0 el), _, _, ?_, hs1.step (fun j => j = d) (t2.keeps F) (fun j hj => hj ▸ hn) t3 t1, ?_, hev.trans t2⟩
    · rw [execOp_append a ho hc ha hty, Sem.run_bind, e0, e1, hrun]
      rfl
    · refine .one (.osl rfl fun e' c' hc' => ?_) rfl
      simp only [mods, List.foldl] at hc' ⊢
      rw [upd_same] at hc' ⊢
      injection hc' with h1 h2
      subst h2
      exact ⟨_, hgr, hgr, by simp [Shape.off]⟩

theorem does_slice3 {t el : TypeId} {x h mx : Operand} {lo : Option Operand} {sz a d : Nat} {es : List PV} {ag : Bool} {kh km : IntKind} {hv : Int} (ho : o.op = .slice t x lo (some h) (some mx)) (hd : dstOk s o.dst) (hx : s.ev x = .p (.sl sz es))
    (he : elOf P t = some el) (hl : ldOf P el = some (ag, sz)) (h1 : aEff.boundOf (lo.map s.ev) 0 a) (hh : s.ev h = .p (.v (.int kh hv))) (hm : s.ev mx = .p (.v (.int km hv))) (h0 : 0 ≤ hv) (hah : a ≤ hv.toNat) (hhe : hv.toNat ≤ es.length)
    (hlt : d < 1000) (hdead : s.H d = .dead) (hn : noRef s.T s.H d) {tc : List (Nat × AObj)} :
    Does P o s ⟨.slt d sz ((es.take hv.toNat).drop a), tc, [(d, .tail (hv.toNat - a))], [d]⟩ :=
  Does.value hd fun w F m act hs => by
    have hr := (hs.eval x).sl_of (.inl hx)
    obtain ⟨ad, c, e1, hc⟩ := hr.sl_form
    rw [e1] at hr
    have g1 := boundOf_val hs h1
    have hv1 := hs.eval h
    have hv2 := hs.eval mx
    rw [hh] at hv1
    rw [hm] at hv2
    have e2 := hv1.pv
    have e3 := hv2.pv
    have hmods : mods s.H [(d, .tail (hv.toNat - a))] = upd s.H d (.tail (hv.toNat - a)) := rfl
    rw [hmods]
    -- the value
    have hrun : (execOp act.eval o).run P w = .ok (.value (.slice (if hv.toNat = a then ad else ad.map (·.add (a * sz))) (hv.toNat - a) (hv.toNat - a))) w := by
      rw [execOp_slice act ho, Sem.run_bind, run_sliceAt_slice he, e1]
      have hz := (ldOf_run hl w).2
      have b1 := bound_run (P := P) (w := w) (x := act.eval mx) (y := c) e3 h0 rfl (by omega) .slice3Acap
      have b2 := bound_run (P := P) (w := w) (x := act.eval h) (y := hv.toNat) e2 h0 rfl (Nat.le_refl _) .slice3B
      rcases g1 with ⟨rfl, rfl⟩ | ⟨y, k1, i1, rfl, p1, p2, p3⟩
      · simp [Instr.slice, run_underlying (el_run he), Instr.sliceBounds, b1, b2, hz]
      · have b3 := bound_run (P := P) (w := w) (x := act.eval y) (y := hv.toNat) p1 p2 p3 hah .slice3C
        simp [Instr.slice, run_underlying (el_run he), Instr.sliceBounds, b1, b2, b3, hz]
    have hsub := hr.sub' (l := a) (h := hv.toNat) hah hhe (hv.toNat - a) (Nat.le_refl _)
    have hlen : ((es.take hv.toNat).drop a).length = hv.toNat - a := by simp; omega
    -- the address where the capacity is not the old one
    have haddr : ∃ ad', (Value.slice (if hv.toNat = a then ad else ad.map (·.add (a * sz))) (hv.toNat - a) (hv.toNat - a)) = .slice ad' (hv.toNat - a) (hv.toNat - a) ∧ RepP w (St.av F m s.H) [.slice ad' (hv.toNat - a) (hv.toNat - a)] (.sl sz ((es.take hv.toNat).drop a)) := by
      refine ⟨_, rfl, ?_⟩
      by_cases hz : hv.toNat = a
      · have : (es.take hv.toNat).drop a = [] := List.eq_nil_of_length_eq_zero (by rw [hlen]; omega)
        rw [this, show hv.toNat - a = 0 by omega]
        exact .sln
      · rw [if_neg hz]
        by_cases hca : c = a
        · omega
        · rwa [if_neg hca] at hsub
    obtain ⟨ad', e4, hrep⟩ := haddr
    -- the room behind it is empty
    obtain ⟨r, hr0, hconn⟩ : ∃ r : Reg, r.lo = r.hi ∧ Conn r sz (.slice ad' (hv.toNat - a) (hv.toNat - a)) := by
      rcases hrep.sl_inv with ⟨h3, a3, c3, e5⟩ | ⟨b, off, c3, e5, _⟩
      · injection e5 with _ e6 e7
        exact ⟨⟨0, 0, 0⟩, rfl, .inl ⟨ad', by rw [e6], rfl⟩⟩
      · injection e5 with e6 e7 e8
        exact ⟨⟨b, off + (hv.toNat - a) * sz, off + (hv.toNat - a) * sz⟩, rfl, .inr ⟨b, off, _, _, by rw [e6], Nat.le_refl _, rfl, rfl, rfl⟩⟩
    obtain ⟨t1, t2, t3⟩ := hs.heap.tail_none (n := hv.toNat - a) r hr0 hdead hlt hn.2
    refine ⟨_, w, _, hrun, hs.step (fun j => j = d) (t2.keeps F) (fun j hj => hj ▸ hn) t3 t1, ?_, t2⟩
    rw [e4]
    refine .one (.slt (hrep.move (t2.keeps F)) fun n' hn' => ?_) rfl
    rw [upd_same] at hn'
    injection hn' with hn'
    subst hn'
    rw [hlen, upd_same]
    exact ⟨Nat.le_refl _, fun _ => hconn⟩
end
end Go.Av
end

section
/- Abstract values: text of bytes, struct and slice literals do what their effects say. -/
namespace Go.Av
open Go
set_option linter.unusedVariables false
set_option linter.unusedSimpArgs false
set_option linter.unusedSectionVars false
variable [Globs]

section
variable {P : Program} {o : Oper} {s : St}

theorem does_convert_str {src dst el : TypeId} {x : Operand} {l : List UInt8} {xs : List PV} (ho : o.op = .convert src dst x) (hd : dstOk s o.dst) (ht : isStr P dst = true) (he : elOf P src = some el) (hk : ikOf P el = some .u8)
    (hs' : srcOf (s.ev x) 1 xs []) (hx : xs = l.map fun b => PV.v (.int .u8 b.toNat)) {tc : List (Nat × AObj)} : Does P o s { v := .p (.v (.string ⟨l.toArray⟩)), touch := tc } :=
  Does.pure hd fun w F m a hs => by
    obtain ⟨g, hsr⟩ := src_of hs hs' (by simp)
    obtain ⟨⟨ad, c, e1, h1⟩, h2, h3⟩ := hsr
    have u1 := el_run he
    have u2 : P.underlying el = some (.int .u8) := by unfold ikOf at hk; split at hk <;> simp_all
    have u3 : P.underlying dst = some .string := by unfold isStr at ht; split at ht <;> simp_all
    refine ⟨.string ⟨l.toArray⟩, ?_, RepV.of_v rfl⟩
    have hlen : xs.length = l.length := by rw [hx]; simp
    have main : (convert src dst (a.eval x)).run P w = .ok (.string ⟨l.toArray⟩) w := by
      rw [e1]
      rcases Nat.eq_zero_or_pos xs.length with h0 | h0
      · have hl : l = [] := List.eq_nil_of_length_eq_zero (by omega)
        subst hl
        rw [h0]
        cases ad with
        | none => exact run_convert_bytes_nil w src el u1 u2 0 c dst u3
        | some ad => simp [convert, run_underlying u1, run_underlying u2, run_underlying u3, Conv.bytesToString, loadCells, loadCellsFrom]; rfl
      · obtain ⟨b, off, rfl, h4⟩ := h1 h0
        have := run_convert_bytes_arg (P := P) w src el u1 u2 b off xs.length c (l.map fun b => (b.toNat : Int)) (by simp [hlen]) (fun i hi => ?_) dst u3
        · rw [this]
          have e2 : (l.map fun b => (b.toNat : Int)).map (fun n => UInt8.ofNat n.toNat) = l := by
            rw [List.map_map]
            conv => rhs; rw [← List.map_id l]
            apply List.map_congr_left
            intro b _
            simp
          rw [strOfNums, e2]
        · have hil : i < l.length := by omega
          have hxi : xs[i]? = some (.v (.int .u8 (l[i].toNat))) := by rw [hx]; simp [List.getElem?_eq_getElem hil]
          have := (h3 i _ hxi).v_inv
          have h5 := h4 i 0 (.int .u8 (l[i].toNat)) hi (by rw [this]; rfl)
          simp only [Nat.mul_one, Nat.add_zero] at h5
          rw [h5]
          simp [List.getD_eq_getElem?_getD, List.getElem?_eq_getElem hil]
    simp only [execOp, ho, Sem.run_bind, main, Result.andThen_ok]
    rfl

/-! ### literals -/
theorem fold_set (off : Nat) (b : List Value) : ∀ (news us a : List Value) (k : Nat), news.length = us.length → a.length = off + k →
    (news.zipIdx k).foldl (fun (cs : Array Value) (p : Value × Nat) => cs.setIfInBounds (off + p.2) p.1) (a ++ us ++ b).toArray = (a ++ news ++ b).toArray := by
  intro news
  induction news with
  | nil => intro us a k h _; have : us = [] := List.eq_nil_of_length_eq_zero (by simpa using h.symm); subst this; rfl
  | cons x news ih =>
    intro us a k h ha
    cases us with
    | nil => simp at h
    | cons u us =>
      simp only [List.zipIdx_cons, List.foldl_cons]
      have hset : (a ++ (u :: us) ++ b).toArray.setIfInBounds (off + k) x = (a ++ [x] ++ us ++ b).toArray := by
        rw [← ha, List.setIfInBounds_toArray]
        congr 1
        rw [List.append_assoc, List.set_append_right _ _ (Nat.le_refl _)]
        simp
      rw [hset]
      have := ih us (a ++ [x]) (k + 1) (by simpa using h) (by simp; omega)
      rw [this]
      simp

variable {w : World} {A : Avoid} {m : Nat → Reg} {H : Nat → AObj}

theorem fill_ok {place : Nat → Option (Nat × Nat)} {sh : Shape}
    (hp : ∀ (c : AV) (vs : List Value), RepC w A m H vs c → c.shape = sh → ∀ i y, c.get? [i] = some y → place i = some (c.shape.off [i], y.size)) :
    ∀ (parts : List (Nat × Value)) (ap : List (Nat × AV)) (c c' : AV) (vs : List Value), RepC w A m H vs c → c.shape = sh → parts.length = ap.length →
      (∀ (j : Nat) p q, parts[j]? = some p → ap[j]? = some q → p.1 = q.1 ∧ (q.2.cellish = true → RepC w A m H p.2.cells.toList q.2)) → setAll c ap c' →
      ∃ vs', Instr.fill place vs.toArray parts = some vs'.toArray ∧ RepC w A m H vs' c' := by
  intro parts
  induction parts with
  | nil =>
    intro ap c c' vs h _ hl _ hs
    have : ap = [] := List.eq_nil_of_length_eq_zero (by simpa using hl.symm)
    subst this
    simp only [setAll] at hs
    subst hs
    exact ⟨vs, rfl, h⟩
  | cons p parts ih =>
    intro ap c c' vs h hsh hl hall hs
    obtain ⟨i, v⟩ := p
    cases ap with
    | nil => simp at hl
    | cons q ap =>
      obtain ⟨i', x⟩ := q
      simp only [setAll] at hs
      obtain ⟨old, c1, h1, h2, h3, h4, h5⟩ := hs
      obtain ⟨e1, e2⟩ := hall 0 _ _ rfl rfl
      simp only at e1 e2
      subst e1
      have e2 := e2 h3
      obtain ⟨a, us, b, rfl, ha, hr, hset⟩ := h.at_ [i] h1
      obtain ⟨h6, h7⟩ := hset _ _ _ e2 h2 h4
      have hpl := hp c _ h hsh i old h1
      have hsz : v.cells.size = old.size := by
        have := e2.len
        rw [← AV.size_shape, h2, AV.size_shape] at this
        simpa using this
      have hlen : v.cells.toList.length = us.length := by rw [hr.len]; simpa using hsz
      obtain ⟨vs', g1, g2⟩ := ih ap c1 c' _ h6 (h7.trans hsh) (by simpa using hl) (fun j p q hj hq => hall (j + 1) p q (by simpa using hj) (by simpa using hq)) h5
      refine ⟨vs', ?_, g2⟩
      simp only [Instr.fill, hpl]
      rw [if_neg]
      · rw [← g1]
        congr 1
        rw [← Array.foldl_toList, Array.toList_zipIdx]
        have := fold_set (c.shape.off [i]) b v.cells.toList us a 0 hlen (by simpa using ha)
        exact this
      · simp only [Bool.or_eq_true, decide_eq_true_eq, not_or]
        refine ⟨by simpa using hsz, ?_⟩
        simp
        rw [← ha]
        have : v.cells.size = us.length := by simpa using hlen
        omega

theorem run_mapM {α β : Type} {f : α → Sem β} {g : α → β} {P : Program} {w : World} : ∀ (l : List α), (∀ x ∈ l, (f x).run P w = .ok (g x) w) → (l.mapM f).run P w = .ok (l.map g) w
  | [], _ => rfl
  | x :: l, h => by
    rw [List.mapM_cons]
    simp only [Sem.run_bind, h x (by simp), Result.andThen_ok, run_mapM l fun y hy => h y (by simp [hy]), Sem.run_pure, List.map_cons]

def ldSize (P : Program) (t : TypeId) : Nat := match ldOf P t with | some (_, n) => n | none => 0

theorem parts_at {a : Act} {s : St} {w : World} {F : Avoid} {m : Nat → Reg} (hs : Sim w F m s a.tmps) {parts : List (Nat × Operand)} (j : Nat) (p : Nat × Value) (q : Nat × AV)
    (h1 : (parts.map fun p => (p.1, a.eval p.2))[j]? = some p) (h2 : (parts.map fun p => (p.1, s.ev p.2))[j]? = some q) : p.1 = q.1 ∧ RepV w (St.av F m s.H) m s.H p.2 q.2 := by
  simp only [List.getElem?_map] at h1 h2
  cases hp : parts[j]? with
  | none => simp [hp] at h1
  | some z =>
    simp [hp] at h1 h2
    subst h1; subst h2
    exact ⟨rfl, hs.eval z.2⟩

theorem does_build {t : TypeId} {parts : Array (Nat × Operand)} {z : PV} {c : AV} (ho : o.op = .build t parts) (hd : dstOk s o.dst) (hz : zeroPV P t = some z) (hzc : zeroChk P t) (hb : bldB P t = true)
    (hset : setAll (.p z) (parts.toList.map fun p => (p.1, s.ev p.2)) c) (hagg : c.isAgg = true) {tc : List (Nat × AObj)} : Does P o s { v := c, touch := tc } :=
  Does.pure hd fun w F m a hs => by
    obtain ⟨z', i, v, h1, h2, h3, h4, h5⟩ := hzc
    rw [hz] at h1
    injection h1 with h1
    subst h1
    have hrep : RepC w (St.av F m s.H) m s.H z.flat (.p z) := .p (RepP.flat h5)
    have hpe : ((parts.map fun p => (p.1, a.eval p.2)).toList) = parts.toList.map fun p => (p.1, a.eval p.2) := by simp
    have hcs : v.cells = z.flat.toArray := Array.ext' (by simpa using h4)
    have key : ∀ place : Nat → Option (Nat × Nat), (∀ (c : AV) (vs : List Value), RepC w (St.av F m s.H) m s.H vs c → c.shape = z.shape → ∀ i y, c.get? [i] = some y → place i = some (c.shape.off [i], y.size)) →
        ∃ vs', Instr.fill place v.cells (parts.map fun p => (p.1, a.eval p.2)).toList = some vs'.toArray ∧ RepC w (St.av F m s.H) m s.H vs' c := fun place hp => by
      rw [hcs, hpe]
      exact fill_ok hp _ _ _ _ _ hrep rfl (by simp) (fun j p q hj hq => ⟨(parts_at hs j p q hj hq).1, fun hc => (parts_at hs j p q hj hq).2.cells hc⟩) hset
    unfold bldB at hb
    rw [hz] at hb
    cases hu : P.underlying t with
    | none => simp [hu] at hb
    | some d =>
      simp only [hu] at hb
      split at hb
      · -- a struct
        rename_i fs zs hde hze
        injection hde with hde
        injection hze with hze
        subst hde; subst hze
        simp only [Bool.and_eq_true, beq_iff_eq, List.all_eq_true, List.mem_range] at hb
        obtain ⟨hsz, hall⟩ := hb
        have hfield : ∀ i x, fs[i]? = some x → ∃ g, zs[i]? = some g ∧ ldSize P x.type = g.size ∧ (∃ ag, ldOf P x.type = some (ag, g.size)) ∧ x.offset = PV.sizeL (zs.take i) := fun i x hx => by
          have hi := (Array.getElem?_eq_some_iff.1 hx).1
          have := hall i hi
          rw [hx] at this
          cases hzi : zs[i]? with
          | none => simp [hzi] at this
          | some g =>
            simp only [hzi, Bool.and_eq_true] at this
            obtain ⟨t1, t2⟩ := this
            refine ⟨g, rfl, ?_, ?_, by simpa using t2⟩
            · unfold ldSize
              split at t1 <;> simp_all
            · cases hl : ldOf P x.type with
              | none => simp [hl] at t1
              | some p => obtain ⟨ag, n⟩ := p; simp [hl] at t1; subst t1; exact ⟨ag, rfl⟩
        have hmap : (fs.mapM fun f => do pure (f.offset, ← sizeOf f.type) : Sem (Array (Nat × Nat))).run P w = .ok (fs.map fun f => (f.offset, ldSize P f.type)) w := by
          rw [Array.mapM_eq_mapM_toList, Sem.run_map, run_mapM (g := fun f => (f.offset, ldSize P f.type)) fs.toList fun x hx => ?_]
          · simp only [Result.andThen_ok]
            congr 1
            exact Array.ext' (by simp)
          · obtain ⟨i, hi⟩ := List.mem_iff_getElem?.1 hx
            obtain ⟨g, _, h7, ⟨ag, h8⟩, _⟩ := hfield i x (by simpa using hi)
            simp only [Sem.run_bind, (ldOf_run h8 w).2, Result.andThen_ok, Sem.run_pure, h7]
        obtain ⟨vs', g1, g2⟩ := key (fun i => (fs.map fun f => (f.offset, ldSize P f.type))[i]?) fun c vs hr hsh i y hy => by
          have hch : ∃ f, zs[i]? = some f ∧ f.shape = y.shape := by
            have h9 : c.shape = .st (PV.shapeL zs) := hsh
            cases c with
            | st fs' =>
              simp only [AV.get?] at hy
              split at hy
              · rename_i f hf
                simp at hy
                subst hy
                have : (AV.shapeL fs')[i]? = some f.shape := by rw [AV.shapeL_map]; simp [hf]
                simp only [AV.shape, Shape.st.injEq] at h9
                rw [h9, PV.shapeL_map] at this
                simp at this
                exact this
              · cases hy
            | p x =>
              cases x with
              | st fs' =>
                simp only [AV.get?, PV.get?] at hy
                cases hf : fs'[i]? with
                | none => simp [hf] at hy
                | some f =>
                  simp [hf] at hy
                  subst hy
                  have : (PV.shapeL fs')[i]? = some f.shape := by rw [PV.shapeL_map]; simp [hf]
                  simp only [AV.shape, PV.shape, Shape.st.injEq] at h9
                  rw [h9, PV.shapeL_map] at this
                  simp at this
                  exact this
              | _ => simp [AV.shape, PV.shape] at h9
            | any n => simp [AV.get?] at hy
            | ptr _ _ => simp [AV.get?] at hy
            | pp _ => simp [AV.get?] at hy
            | slt _ _ _ => simp [AV.get?] at hy
            | osl _ _ _ _ => simp [AV.get?] at hy
            | oss _ _ _ _ _ => simp [AV.get?] at hy
            | fn _ _ => simp [AV.get?] at hy
            | ifc _ _ => simp [AV.get?] at hy
            | tup _ => simp [AV.get?] at hy
          obtain ⟨f, hf, hfs⟩ := hch
          have hi : i < fs.size := by rw [hsz]; exact (List.getElem?_eq_some_iff.1 hf).1
          obtain ⟨g, q1, q2, _, q4⟩ := hfield i _ (Array.getElem?_eq_getElem hi)
          rw [hf] at q1
          injection q1 with q1
          subst q1
          simp only [Array.getElem?_map, Array.getElem?_eq_getElem hi, Option.map_some]
          rw [hsh, q2, q4]
          congr 2
          · simp only [PV.shape, Shape.off, Nat.add_zero]
            rw [PV.shapeL_map, ← List.map_take, ← PV.shapeL_map, PV.sizeL_shape]
          · rw [← PV.size_shape, hfs, AV.size_shape]
        refine ⟨.agg vs'.toArray, ?_, .agg g2 hagg⟩
        simp only [execOp, ho, Instr.build, zeroValue, typeInfo, Sem.run_bind, run_program, Result.andThen_ok, h2, h3, Sem.run_pure, run_underlying hu, hmap]
        rw [g1]
        rfl
      · -- an array of numbers
        rename_i len el k n l hde hze
        injection hde with hde
        injection hze with hze
        subst hde; subst hze
        cases hl : ldOf P el with
        | none => simp [hl] at hb
        | some p =>
          obtain ⟨ag, n'⟩ := p
          simp [hl] at hb
          subst hb
          have hz' := (ldOf_run hl w).2
          obtain ⟨vs', g1, g2⟩ := key (fun i => some (i * 1, 1)) fun c vs hr hsh i y hy => by
            have h9 : c.shape = .arr n := hsh
            cases c with
            | p x =>
              cases x with
              | ints k2 n2 l2 =>
                simp only [AV.get?, PV.get?] at hy
                cases hf : l2[i]? with
                | none => simp [hf] at hy
                | some f => simp [hf] at hy; subst hy; simp [AV.shape, PV.shape, Shape.off, AV.size, PV.size]
              | v x => simp [AV.get?, PV.get?] at hy
              | sl k es => simp [AV.get?, PV.get?] at hy
              | st fs => simp [AV.shape, PV.shape] at h9
            | st fs => simp [AV.shape] at h9
            | any n => simp [AV.get?] at hy
            | ptr _ _ => simp [AV.get?] at hy
            | pp _ => simp [AV.get?] at hy
            | slt _ _ _ => simp [AV.get?] at hy
            | osl _ _ _ _ => simp [AV.get?] at hy
            | oss _ _ _ _ _ => simp [AV.get?] at hy
            | fn _ _ => simp [AV.get?] at hy
            | ifc _ _ => simp [AV.get?] at hy
            | tup _ => simp [AV.get?] at hy
          refine ⟨.agg vs'.toArray, ?_, .agg g2 hagg⟩
          simp only [execOp, ho, Instr.build, zeroValue, typeInfo, Sem.run_bind, run_program, Result.andThen_ok, h2, h3, Sem.run_pure, run_underlying hu, hz']
          rw [g1]
          rfl
      · cases hb

theorem zero_rows {z : Array Value} {n : Nat} (hz : 0 < z.size) : ((Array.range (n * z.size)).map fun i => z[i % z.size]!).toList = (List.replicate n z.toList).flatten := by
  simp only [Array.toList_map, Array.toList_range]
  induction n with
  | zero => simp
  | succ n ih =>
    rw [Nat.succ_mul, List.range_add, List.map_append, ih, List.replicate_succ', List.flatten_append, List.map_map]
    congr 1
    simp only [List.flatten_cons, List.flatten_nil, List.append_nil]
    apply List.ext_getElem
    · simp
    · intro i h1 h2
      have hi : i < z.size := by simpa using h2
      simp [Nat.mul_add_mod, Nat.mod_eq_of_lt hi, hi, Nat.add_mod]

theorem RepP.replicate {w : World} {A : Avoid} {vs : List Value} {z : PV} (h : RepP w A vs z) : ∀ n, RepP w A (List.replicate n vs).flatten (.st (List.replicate n z))
  | 0 => by simpa using RepP.stn
  | n + 1 => by rw [List.replicate_succ, List.replicate_succ, List.flatten_cons]; exact .stc h (RepP.replicate h n)

/-- Elements laid one behind the other, at the head of a block. -/
theorem RepP.sl_of_st {w : World} {A : Avoid} {vs : List Value} {es : List PV} {k b : Nat} (h : RepP w A vs (.st es)) (hk : ∀ e ∈ es, e.size = k) (hc : Cells w A b 0 vs) {c : Nat} (hcap : es.length ≤ c) :
    RepP w A [.slice (some ⟨b, 0, none⟩) es.length c] (.sl k es) := by
  obtain ⟨g, h1, h2, h3⟩ := RepP.st_parts h hk
  exact .sl g rfl hcap h1 h2 fun i hi j x hj => by
    have := hc (i * k + j) x (h3 i j x hi hj)
    rwa [show 0 + i * k + j = 0 + (i * k + j) by omega]

mutual
theorem pview_rep : ∀ {a : AV} {vs : List Value} {x : PV}, RepC w A m H vs a → a.pview = some x → RepP w A vs x
  | .p y, vs, x, h, e => by simp [AV.pview] at e; subst e; exact h.p_inv
  | .slt tok k es, vs, x, h, e => by
    simp [AV.pview] at e
    subst e
    generalize hv : AV.slt tok k es = z at h
    cases h with
    | slt h2 _ => injection hv with h3 h4 h5; subst h4; subst h5; exact h2
    | _ => cases hv
  | .st fs, vs, x, h, e => by
    simp only [AV.pview, Option.map_eq_some_iff] at e
    obtain ⟨xs, e1, rfl⟩ := e
    exact pview_repL h e1
  | .any _, _, _, _, e => by simp [AV.pview] at e
  | .ptr _ _, _, _, _, e => by simp [AV.pview] at e
  | .pp _, _, _, _, e => by simp [AV.pview] at e
  | .osl _ _ _ _, _, _, _, e => by simp [AV.pview] at e
  | .oss _ _ _ _ _, _, _, _, e => by simp [AV.pview] at e
  | .fn _ _, _, _, _, e => by simp [AV.pview] at e
  | .ifc _ _, _, _, _, e => by simp [AV.pview] at e
  | .tup _, _, _, _, e => by simp [AV.pview] at e
theorem pview_repL : ∀ {fs : List AV} {vs : List Value} {xs : List PV}, RepC w A m H vs (.st fs) → AV.pviewL fs = some xs → RepP w A vs (.st xs)
  | [], vs, xs, h, e => by
    simp [AV.pviewL] at e
    subst e
    generalize hv : AV.st [] = z at h
    cases h with
    | stn => exact .stn
    | _ => cases hv
  | f :: fs, vs, xs, h, e => by
    obtain ⟨us, ws, rfl, h1, h2⟩ := h.st_inv
    simp only [AV.pviewL] at e
    split at e
    · rename_i y ys e1 e2
      simp at e
      subst e
      exact .stc (pview_rep h1 e1) (pview_repL h2 e2)
    · cases e
end

theorem pview_agg {a : AV} {x : PV} (h : a.pview = some x) : a.isAgg = (AV.p x).isAgg := by
  cases a with
  | p y => simp [AV.pview] at h; subst h; rfl
  | slt tok k es => simp [AV.pview] at h; subst h; rfl
  | st fs => simp only [AV.pview, Option.map_eq_some_iff] at h; obtain ⟨xs, _, rfl⟩ := h; rfl
  | _ => simp [AV.pview] at h
theorem pview_cellish {a : AV} {x : PV} (h : a.pview = some x) : a.cellish = true := by cases a <;> simp_all [AV.pview, AV.cellish]

theorem RepV.pview {x : Value} {a : AV} {y : PV} (h : RepV w A m H x a) (e : a.pview = some y) : RepV w A m H x (.p y) := by
  have hg := pview_agg e
  cases h with
  | any => simp [AV.pview] at e
  | one h hs => exact .one (.p (pview_rep h e)) (hg ▸ hs)
  | agg h hs => exact .agg (.p (pview_rep h e)) (hg ▸ hs)
  | tup _ _ => simp [AV.pview] at e

theorem RepP.leP {x y : PV} (hl : PV.leP x y) : ∀ {vs : List Value}, RepP w A vs x → RepP w A vs y := by
  induction hl with
  | refl x => intro vs h; exact h
  | nil k => intro vs h; rw [h.v_inv]; exact .sln
  | @st fs gs hlen h ih =>
    clear h
    induction fs generalizing gs with
    | nil =>
      intro vs h
      have : gs = [] := List.eq_nil_of_length_eq_zero (by simpa using hlen.symm)
      subst this
      exact h
    | cons f fs ihl =>
      intro vs h
      cases gs with
      | nil => simp at hlen
      | cons g gs =>
        obtain ⟨us, ws, rfl, h1, h2⟩ := h.st_inv
        exact .stc (ih 0 f g rfl rfl h1) (ihl (by simpa using hlen) (fun i f' g' hf hg => ih (i + 1) f' g' (by simpa using hf) (by simpa using hg)) h2)
  | @sl k fs gs hlen h ih =>
    intro vs hv
    cases hv with
    | sln =>
      have : gs = [] := List.eq_nil_of_length_eq_zero (by simpa using hlen.symm)
      subst this
      exact .sln
    | sl g hn hc hk hr hcells =>
      refine .sl g (by omega) hc hk (fun i e he => ?_) hcells
      have hi := (List.getElem?_eq_some_iff.1 he).1
      exact ih i fs[i] e (List.getElem?_eq_getElem (by omega)) he (hr i _ (List.getElem?_eq_getElem (by omega)))
theorem leP_agg {x y : PV} (hl : PV.leP x y) : (AV.p x).isAgg = (AV.p y).isAgg := by cases hl <;> rfl
theorem RepV.leP {v : Value} {x y : PV} (h : RepV w A m H v (.p x)) (hl : PV.leP x y) : RepV w A m H v (.p y) := by
  generalize hq : AV.p x = q at h
  cases h with
  | any => cases hq
  | one h hs => subst hq; exact .one (.p (h.p_inv.leP hl)) (by rw [← leP_agg hl]; exact hs)
  | agg h hs => subst hq; exact .agg (.p (h.p_inv.leP hl)) (by rw [← leP_agg hl]; exact hs)
  | tup _ _ => cases hq
theorem RepV.le {x : Value} {a b : AV} (h : RepV w A m H x a) (hl : AV.le a b) : RepV w A m H x b := by
  rcases hl with rfl | ⟨y, e, rfl⟩ | ⟨n, rfl⟩ | ⟨k, rfl, rfl⟩ | ⟨x', y, e, hl, rfl⟩
  · exact h
  · exact h.pview e
  · exact .any
  · rw [h.pv]
    exact .one (.p .sln) rfl
  · exact (h.pview e).leP hl

theorem does_buildSlice {t el : TypeId} {len sz : Nat} {parts : Array (Nat × Operand)} {ag : Bool} {z : PV} {ps : List (Nat × PV)} {es : List PV} (ho : o.op = .buildSlice t len parts) (hd : dstOk s o.dst) (he : elOf P t = some el) (hl : ldOf P el = some (ag, sz))
    (hz : zeroPV P el = some z) (hzc : zeroChk P el) (hsz : z.size = sz) (hpos : 0 < sz) (hbig : len * sz ≤ 16777216) (hps : (parts.toList.map fun p => (p.1, (s.ev p.2).pview)) = ps.map fun p => (p.1, some p.2))
    (hset : setAll (.p (.st (List.replicate len z))) (ps.map fun p => (p.1, .p p.2)) (.p (.st es))) {tc : List (Nat × AObj)} : Does P o s { v := .p (.sl sz es), touch := tc } :=
  Does.read hd fun w F m a hs => by
    obtain ⟨z', i, v, h1, h2, h3, h4, h5⟩ := hzc
    rw [hz] at h1
    injection h1 with h1
    subst h1
    have hrz : RepP w (St.av F m s.H) z.flat z := RepP.flat h5
    have hvs : v.cells.size = sz := by have := hrz.len; rw [← h4, hsz] at this; simpa using this
    have hrow := zero_rows (z := v.cells) (n := len) (by omega)
    have hrep : RepC w (St.av F m s.H) m s.H (List.replicate len z.flat).flatten (.p (.st (List.replicate len z))) := .p (hrz.replicate len)
    have hcs : ((Array.range (len * sz)).map fun i => v.cells[i % v.cells.size]!) = (List.replicate len z.flat).flatten.toArray := Array.ext' (by rw [← hvs, hrow, h4])
    have hshape : (AV.p (.st (List.replicate len z))).shape = .st (List.replicate len z.shape) := by simp [AV.shape, PV.shape, PV.shapeL_map]
    obtain ⟨vs', g1, g2⟩ := fill_ok (w := w) (A := St.av F m s.H) (m := m) (H := s.H) (place := fun i => some (i * sz, sz)) (sh := .st (List.replicate len z.shape))
      (fun c vs hr hsh i y hy => by
        have hu : c.shape.uni sz := by rw [hsh]; intro f hf; rw [List.eq_of_mem_replicate hf, PV.size_shape, hsz]
        have hcnt : ∀ fs, c.shape = .st fs → i ≤ fs.length := by
          intro fs hf
          cases c with
          | st fs' =>
            simp only [AV.get?] at hy
            simp only [AV.shape, Shape.st.injEq] at hf
            subst hf
            cases hq : fs'[i]? with
            | none => simp [hq] at hy
            | some f => have := (List.getElem?_eq_some_iff.1 hq).1; rw [AV.shapeL_map]; simp; omega
          | p x =>
            simp only [AV.get?] at hy
            cases hq : PV.get? [i] x with
            | none => simp [hq] at hy
            | some f => exact PV.get?_st hq fs hf
          | _ => simp [AV.get?] at hy
        rw [Shape.uni_off hu hcnt]
        -- an element's size
        have hy2 : y.shape = z.shape := by
          cases c with
          | st fs' =>
            simp only [AV.get?] at hy
            cases hq : fs'[i]? with
            | none => simp [hq] at hy
            | some f =>
              simp [hq] at hy
              subst hy
              simp only [AV.shape, Shape.st.injEq] at hsh
              have : (AV.shapeL fs')[i]? = some f.shape := by rw [AV.shapeL_map]; simp [hq]
              rw [hsh] at this
              exact (List.eq_of_mem_replicate (List.mem_of_getElem? this))
          | p x =>
            cases x with
            | st fs' =>
              simp only [AV.get?, PV.get?] at hy
              cases hq : fs'[i]? with
              | none => simp [hq] at hy
              | some f =>
                simp [hq] at hy
                subst hy
                simp only [AV.shape, PV.shape, Shape.st.injEq] at hsh
                have : (PV.shapeL fs')[i]? = some f.shape := by rw [PV.shapeL_map]; simp [hq]
                rw [hsh] at this
                exact (List.eq_of_mem_replicate (List.mem_of_getElem? this))
            | _ => simp [AV.shape, PV.shape] at hsh
          | any n => simp [AV.get?] at hy
          | ptr _ _ => simp [AV.get?] at hy
          | pp _ => simp [AV.get?] at hy
          | slt _ _ _ => simp [AV.get?] at hy
          | osl _ _ _ _ => simp [AV.get?] at hy
          | oss _ _ _ _ _ => simp [AV.get?] at hy
          | fn _ _ => simp [AV.get?] at hy
          | ifc _ _ => simp [AV.get?] at hy
          | tup _ => simp [AV.get?] at hy
        rw [← AV.size_shape, hy2, PV.size_shape, hsz])
      (parts.toList.map fun p => (p.1, a.eval p.2)) (ps.map fun p => (p.1, .p p.2)) _ (.p (.st es)) _ hrep hshape
      (by have := congrArg List.length hps; simpa using this)
      (fun j p q hj hq => by
        have hpj := congrArg (fun l => l[j]?) hps
        simp only [List.getElem?_map] at hj hq hpj
        cases hp : parts.toList[j]? with
        | none => rw [hp] at hj; simp at hj
        | some u =>
          cases hq2 : ps[j]? with
          | none => rw [hq2] at hq; simp at hq
          | some v2 =>
            rw [hp] at hj hpj
            rw [hq2] at hq hpj
            simp at hj hq hpj
            subst hj; subst hq
            refine ⟨hpj.1, fun _ => ?_⟩
            exact ((hs.eval u.2).pview hpj.2).cells (pview_cellish (a := .p v2.2) rfl))
      hset
    have hsh : (AV.p (.st es)).shape = .st (List.replicate len z.shape) := by
      have inv : ∀ (ap : List (Nat × AV)) (c c' : AV) (vs : List Value), RepC w (St.av F m s.H) m s.H vs c → c.shape = .st (List.replicate len z.shape) →
          (∀ q ∈ ap, ∃ us, RepC w (St.av F m s.H) m s.H us q.2) → setAll c ap c' → c'.shape = .st (List.replicate len z.shape) := by
        intro ap
        induction ap with
        | nil => intro c c' vs _ h _ hs; simp only [setAll] at hs; subst hs; exact h
        | cons q ap ih =>
          intro c c' vs h hsh hq hs
          obtain ⟨i, x⟩ := q
          simp only [setAll] at hs
          obtain ⟨old, c1, k1, k2, k3, k4, k5⟩ := hs
          obtain ⟨us, hus⟩ := hq (i, x) (by simp)
          obtain ⟨a, us0, b, rfl, ha, hr, hset⟩ := h.at_ [i] k1
          obtain ⟨h6, h7⟩ := hset _ _ _ hus k2 k4
          exact ih c1 c' _ h6 (h7.trans hsh) (fun q hq' => hq q (by simp [hq'])) k5
      refine inv _ _ _ _ hrep hshape (fun q hq => ?_) hset
      obtain ⟨v2, hv2, rfl⟩ := List.mem_map.1 hq
      obtain ⟨j, hj⟩ := List.mem_iff_getElem?.1 hv2
      have hpj := congrArg (fun l => l[j]?) hps
      simp only [List.getElem?_map, hj] at hpj
      cases hp : parts.toList[j]? with
      | none => rw [hp] at hpj; simp at hpj
      | some u =>
        rw [hp] at hpj
        simp at hpj
        exact ⟨_, ((hs.eval u.2).pview hpj.2).cells (pview_cellish (a := .p v2.2) rfl)⟩
    have hall : ∀ e ∈ es, e.size = sz := by
      intro e he
      simp only [AV.shape, PV.shape, Shape.st.injEq] at hsh
      have : e.shape ∈ PV.shapeL es := by rw [PV.shapeL_map]; exact List.mem_map_of_mem he
      rw [hsh] at this
      rw [← PV.size_shape, List.eq_of_mem_replicate this, PV.size_shape, hsz]
    have hlen : es.length = len := by
      simp only [AV.shape, PV.shape, Shape.st.injEq] at hsh
      have := congrArg List.length hsh
      rw [PV.shapeL_map] at this
      simpa using this
    have fr : Fr (fun _ _ => False) w (w.alloc (.cells vs'.toArray el)) := Fr.alloc _ _
    refine ⟨.slice (some ⟨w.heap.size, 0, none⟩) len len, w.alloc (.cells vs'.toArray el), ?_, fr, ?_⟩
    · have hz' := (ldOf_run hl w).2
      have hbig' : ¬ (len * sz > 2 ^ 24) := by
        have : (2 : Nat) ^ 24 = 16777216 := by decide
        omega
      have hpe : ((parts.map fun p => (p.1, a.eval p.2)).toList) = parts.toList.map fun p => (p.1, a.eval p.2) := by simp
      have hfill : Instr.fill (fun i => some (i * sz, sz)) ((Array.range (len * sz)).map fun i => v.cells[i % v.cells.size]!) (parts.map fun p => (p.1, a.eval p.2)).toList = some vs'.toArray := by
        rw [hpe, ← g1, hcs]
      simp only [execOp, ho, Instr.buildSlice, Sem.run_bind, run_underlying (el_run he), Result.andThen_ok, hz']
      rw [if_neg hbig']
      by_cases h0 : len * sz = 0
      · have hfill0 : Instr.fill (fun i => some (i * sz, sz)) ((Array.range (len * sz)).map fun i => (#[] : Array Value)[i % (#[] : Array Value).size]!) (parts.map fun p => (p.1, a.eval p.2)).toList = some vs'.toArray := by
          have e0 : Array.range 0 = #[] := rfl
          rw [← hfill, h0, e0, Array.map_empty, Array.map_empty]
        simp only [Sem.run_pure, Sem.run_bind, Result.andThen_ok, if_pos h0]
        rw [hfill0]
        simp [newRow]
      · simp only [Sem.run_pure, Sem.run_bind, Result.andThen_ok, if_neg h0, zeroValue, typeInfo, run_program, h2, h3]
        rw [hfill]
        simp [newRow]
    · have := RepP.sl_of_st (w := w.alloc (.cells vs'.toArray el)) (A := St.av F m s.H) (b := w.heap.size) (c := len) (g2.p_inv.move (fun b o y hc hn => ⟨fr.cell hc (fun h => h), hn⟩)) hall (fun j x hj => ⟨?_, fun ha => ?_⟩) (by omega)
      · rw [hlen] at this
        exact .one (.p this) rfl
      · rw [cell_of_row _ w.heap.size _ vs'.toArray el (0, 0) (heap_alloc_new w _)]
        simpa using hj
      · rcases ha with ha | ⟨j', ha⟩
        · have := (hs.heap.far _ _ ha).1; omega
        · have := hs.heap.own_lt ha; omega
end
end Go.Av
end

section
/- Abstract values: a call does what its contract says; all operations together. -/
namespace Go.Av
open Go
set_option linter.unusedVariables false
set_option linter.unusedSimpArgs false
set_option linter.unusedSectionVars false
variable [Globs]

/-! ### lists of numbered things -/
theorem mods_notin {l : List (Nat × AObj)} : ∀ {H : Nat → AObj} {id : Nat}, id ∉ idsOf l → mods H l id = H id := by
  induction l with
  | nil => intro H id _; rfl
  | cons p l ih =>
    intro H id h
    simp only [idsOf, List.map_cons, List.mem_cons, not_or] at h
    show mods (upd H p.1 p.2) l id = H id
    rw [ih (by simpa [idsOf] using h.2), upd_ne _ _ h.1]
theorem mods_in {l : List (Nat × AObj)} : ∀ {H : Nat → AObj} {id : Nat} {o : AObj}, (idsOf l).Nodup → (id, o) ∈ l → mods H l id = o := by
  induction l with
  | nil => intro H id o _ h; cases h
  | cons p l ih =>
    intro H id o hn h
    simp only [idsOf, List.map_cons, List.nodup_cons] at hn
    show mods (upd H p.1 p.2) l id = o
    rcases List.mem_cons.1 h with h | h
    · subst h
      rw [mods_notin (by simpa [idsOf] using hn.1), upd_same]
    · exact ih (by simpa [idsOf] using hn.2) h
theorem hOf_notin {l : List (Nat × AObj)} {id : Nat} (h : id ∉ idsOf l) : hOf l id = .dead := mods_notin h
theorem hOf_in {l : List (Nat × AObj)} {id : Nat} {o : AObj} (hn : (idsOf l).Nodup) (h : (id, o) ∈ l) : hOf l id = o := mods_in hn h
theorem mods_append (H : Nat → AObj) (a b : List (Nat × AObj)) : mods H (a ++ b) = mods (mods H a) b := by simp [mods]
theorem ids_mem {l : List (Nat × AObj)} {id : Nat} (h : id ∈ idsOf l) : ∃ o, (id, o) ∈ l := by
  obtain ⟨p, hp, rfl⟩ := List.mem_map.1 h
  exact ⟨p.2, hp⟩

theorem leAll_get {as bs : List AV} : leAll as bs → as.length = bs.length ∧ ∀ (i : Nat) a b, as[i]? = some a → bs[i]? = some b → AV.le a b := by
  induction as generalizing bs with
  | nil =>
    intro h
    cases bs with
    | nil => exact ⟨rfl, fun i a b h => by simp at h⟩
    | cons b bs => exact h.elim
  | cons a as ih =>
    intro h
    cases bs with
    | nil => exact h.elim
    | cons b bs =>
      obtain ⟨h1, h2⟩ := h
      obtain ⟨h3, h4⟩ := ih h2
      refine ⟨by simp [h3], fun i x y hx hy => ?_⟩
      cases i with
      | zero => simp at hx hy; subst hx; subst hy; exact h1
      | succ i => exact h4 i x y (by simpa using hx) (by simpa using hy)

section
variable {P : Program} {o : Oper} {s : St}

theorem does_callF {f : FuncId} {args : List AV} {e : Eff} (hd : dstOk s o.dst) (hc : callEffF P f args e) (ht : ∀ p ∈ e.touch, s.H p.1 = p.2) (hn : ∀ d ∈ e.new, s.H d = .dead ∧ noRef s.T s.H d)
    (hrun : ∀ (w : World) (F : Avoid) (m : Nat → Reg) (a : Act), Sim w F m s a.tmps → ∃ vals : List Value, vals.length = args.length ∧
      (∀ (i : Nat) x b, vals[i]? = some x → args[i]? = some b → RepV w (St.av F m s.H) m s.H x b) ∧ (execOp a.eval o).run P w = .ok (.enter f vals.toArray) w) : Does P o s e := by
  obtain ⟨args', hc', r, hr, hcon, hle, hlive, hnc, hnr, hrefs, hrefs2, hids, rfl⟩ := hc
  intro w F m a K Q hs hK
  obtain ⟨vals, hlen, hvals, hrun⟩ := hrun w F m a hs
  obtain ⟨hl1, hl2⟩ := leAll_get hle
  simp only at ht hn hK
  -- what the callee owns, and what it doesn't
  have hsub : ∀ id, hOf hc' id = s.H id ∨ hOf hc' id = .dead := fun id => by
    by_cases h : id ∈ idsOf hc'
    · obtain ⟨x, hx⟩ := ids_mem h
      rw [hOf_in hnc hx]
      exact .inl (ht _ hx).symm
    · exact .inr (hOf_notin h)
  have owc : ∀ id b o, OwnBy m (hOf hc') id b o → OwnBy m s.H id b o := fun id b o h => by
    rcases hsub id with e | e
    · exact ⟨by rw [← e]; exact h.1, h.2⟩
    · exact absurd e h.1
  let G : Avoid := fun b o => ∃ id, id ∉ idsOf hc' ∧ OwnBy m s.H id b o
  let F' : Avoid := Avoid.or F G
  have hAeq : ∀ b o, St.av F' m (hOf hc') b o ↔ St.av F m s.H b o := fun b o => by
    constructor
    · rintro ((h | ⟨id, _, h⟩) | ⟨id, h⟩)
      · exact .inl h
      · exact .inr ⟨id, h⟩
      · exact .inr ⟨id, owc _ _ _ h⟩
    · rintro (h | ⟨id, h⟩)
      · exact .inl (.inl h)
      · by_cases hi : id ∈ idsOf hc'
        · obtain ⟨x, hx⟩ := ids_mem hi
          refine .inr ⟨id, ?_, h.2⟩
          rw [hOf_in hnc hx]
          exact hlive _ hx
        · exact .inl (.inr ⟨id, hi, h⟩)
  have hA : St.av F' m (hOf hc') = St.av F m s.H := by
    funext b o
    exact propext (hAeq b o)
  have hdrop := hs.heap.drop (H' := hOf hc') hsub
  have hSc : SimH w F' m (hOf hc') := by
    refine ⟨fun id => ?_, hdrop.disj, fun b o hf => ?_, by rw [hA]; exact hs.heap.glob⟩
    · have := hdrop.obj id
      unfold ObjOk at this ⊢
      rcases hsub id with e | e
      · have h0 := hs.heap.obj id
        unfold ObjOk at h0
        rw [e]
        cases ho : s.H id with
        | dead => trivial
        | tail n => rw [e, ho] at this; exact this
        | row ty c =>
          rw [ho] at h0
          obtain ⟨cs, vs, g1, g2, g3, g4, g5⟩ := h0
          refine ⟨cs, vs, g1, g2, g3, g4, ?_⟩
          rw [hA]
          exact g5.move (Keeps.refl _ _) fun j _ => by
            rcases hsub j with e | e <;> rw [e]
            · exact HOk.refl _ _
            · exact HOk.dead _ _ _
      · rw [e]; trivial
    · rcases hf with hf | ⟨id, hi, h⟩
      · exact ⟨(hs.heap.far b o hf).1, fun ⟨j, hj⟩ => (hs.heap.far b o hf).2 ⟨j, owc _ _ _ hj⟩⟩
      · refine ⟨hs.heap.own_lt h, fun ⟨j, hj⟩ => ?_⟩
        have hjc : j ∈ idsOf hc' := Classical.byContradiction fun hn => hj.1 (hOf_notin hn)
        exact hs.heap.disj id j b o (fun e => hi (e ▸ hjc)) h (owc _ _ _ hj)
  have hargs : ∀ (i : Nat) x b, vals[i]? = some x → args'[i]? = some b → RepV w (St.av F' m (hOf hc')) m (hOf hc') x b := fun i x b hx hb => by
    have hi := (List.getElem?_eq_some_iff.1 hb).1
    obtain ⟨b0, hb0⟩ : ∃ b0, args[i]? = some b0 := ⟨_, List.getElem?_eq_getElem (by omega)⟩
    have h1 := (hvals i x b0 hx hb0).le (hl2 i _ _ hb0 hb)
    rw [hA]
    exact h1.move (Keeps.refl _ _) fun j _ => by
      rcases hsub j with e | e <;> rw [e]
      · exact HOk.refl _ _
      · exact HOk.dead _ _ _
  have hcall := hcon.2 w F' m vals (by omega) hargs hSc
  unfold Oper.wp
  rw [hrun, Oper.upon_enter]
  refine hcall.mono fun ed w' ⟨x, m', hed, hrep, hSr, hfr, hle', hok⟩ => ?_
  subst hed
  simp only
  -- put together again
  let M : Nat → Reg := fun id => if id ∈ idsOf hr then m' id else m id
  let H' : Nat → AObj := mods s.H ((idsOf hc').map (fun i => (i, AObj.dead)) ++ hr)
  have hH'r : ∀ id, id ∈ idsOf hr → H' id = hOf hr id := fun id hi => by
    obtain ⟨x, hx⟩ := ids_mem hi
    show mods s.H _ id = _
    rw [mods_append, mods_in hnr hx, hOf_in hnr hx]
  have hH'n : ∀ id, id ∉ idsOf hr → H' id = if id ∈ idsOf hc' then .dead else s.H id := fun id hi => by
    show mods s.H _ id = _
    rw [mods_append, mods_notin hi]
    split
    · rename_i h
      obtain ⟨x, hx⟩ := ids_mem h
      refine mods_in ?_ (List.mem_map.2 ⟨id, h, rfl⟩)
      simpa [idsOf, Function.comp_def] using hnc
    · rename_i h
      refine mods_notin ?_
      simpa [idsOf] using h
  have hMr : ∀ id, id ∈ idsOf hr → M id = m' id := fun id hi => if_pos hi
  have hMn : ∀ id, id ∉ idsOf hr → M id = m id := fun id hi => if_neg hi
  have hrlive : ∀ id, hOf hr id ≠ .dead → id ∈ idsOf hr := fun id h => Classical.byContradiction fun hn => h (hOf_notin hn)
  -- owners behind the call
  have ownr : ∀ id b o, id ∈ idsOf hr → (OwnBy M H' id b o ↔ OwnBy m' (hOf hr) id b o) := fun id b o hi => by unfold OwnBy; rw [hH'r id hi, hMr id hi]
  have ownn : ∀ id b o, id ∉ idsOf hr → OwnBy M H' id b o → id ∉ idsOf hc' ∧ OwnBy m s.H id b o := fun id b o hi h => by
    unfold OwnBy at h
    rw [hH'n id hi, hMn id hi] at h
    by_cases hc : id ∈ idsOf hc'
    · rw [if_pos hc] at h; exact absurd rfl h.1
    · rw [if_neg hc] at h; exact ⟨hc, h⟩
  have ownn' : ∀ id b o, id ∉ idsOf hr → id ∉ idsOf hc' → OwnBy m s.H id b o → OwnBy M H' id b o := fun id b o hi hc h => by
    unfold OwnBy
    rw [hH'n id hi, hMn id hi, if_neg hc]
    exact h
  -- new ids were free
  have hnew : ∀ id, id ∈ idsOf hr → id ∉ idsOf hc' → s.H id = .dead ∧ noRef s.T s.H id := fun id hi hc => hn id (by simp [hi, hc])
  have hAr : St.av F' m' (hOf hr) = St.av F M H' := by
    funext b o
    refine propext ⟨?_, ?_⟩
    · rintro ((h | ⟨id, hi, h⟩) | ⟨id, h⟩)
      · exact .inl h
      · by_cases hir : id ∈ idsOf hr
        · exact absurd (hnew id hir hi).1 h.1
        · exact .inr ⟨id, ownn' _ _ _ hir hi h⟩
      · have hir := hrlive id h.1
        exact .inr ⟨id, (ownr _ _ _ hir).2 h⟩
    · rintro (h | ⟨id, h⟩)
      · exact .inl (.inl h)
      · by_cases hir : id ∈ idsOf hr
        · exact .inr ⟨id, (ownr _ _ _ hir).1 h⟩
        · obtain ⟨h1, h2⟩ := ownn _ _ _ hir h
          exact .inl (.inr ⟨id, h1, h2⟩)
  have hfr' : Fr (Own m s.H) w w' := hfr.mono fun b o _ ⟨id, h⟩ => ⟨id, owc _ _ _ h⟩
  have hHOk : ∀ id, ¬ (id ∈ idsOf hr ∧ id ∉ idsOf hc') → HOk (s.H id) (m id) (H' id) (M id) := fun id h => by
    by_cases hir : id ∈ idsOf hr
    · have hic : id ∈ idsOf hc' := Classical.byContradiction fun hc => h ⟨hir, hc⟩
      obtain ⟨y, hy⟩ := ids_mem hic
      rw [hH'r id hir, hMr id hir, ← (show hOf hc' id = s.H id by rw [hOf_in hnc hy]; exact (ht _ hy).symm)]
      exact hok id (by rw [hOf_in hnc hy]; exact hlive _ hy)
    · rw [hH'n id hir, hMn id hir]
      split
      · exact HOk.dead _ _ _
      · exact HOk.refl _ _
  have hkc : Keeps w w' (St.av F m s.H) (St.av F M H') := fun b o y hc hn' => by
    have hlt : b < w.heap.size := block_lt_of_cell hc
    refine ⟨hfr.cell hc fun ⟨id, h⟩ => hn' (.inr ⟨id, owc _ _ _ h⟩), fun ha => ?_⟩
    rw [← hAr] at ha
    rcases ha with ha | ha
    · exact hn' ((hAeq b o).1 (.inl ha))
    · obtain ⟨id, h⟩ := hle' b o hlt ha
      exact hn' (.inr ⟨id, owc _ _ _ h⟩)
  have hev : Ev w m s.H w' M H' := by
    refine ⟨hfr', fun b o hb ⟨id, h⟩ => ?_, fun id hi => hHOk id fun ⟨h1, h2⟩ => ?_⟩
    · by_cases hir : id ∈ idsOf hr
      · obtain ⟨j, hj⟩ := hle' b o hb ⟨id, (ownr _ _ _ hir).1 h⟩
        exact ⟨j, owc _ _ _ hj⟩
      · exact ⟨id, (ownn _ _ _ hir h).2⟩
    · rcases hids id h1 with h3 | h3
      · exact h2 h3
      · omega
  have hSH : SimH w' F M H' := by
    refine ⟨fun id => ?_, fun i j b o hij h1 h2 => ?_, fun b o hf => ⟨Nat.lt_of_lt_of_le (hs.heap.far b o hf).1 hfr.size, fun ⟨id, h⟩ => ?_⟩, hs.heap.glob.move hkc⟩
    · by_cases hir : id ∈ idsOf hr
      · obtain ⟨y, hy⟩ := ids_mem hir
        have h0 := hSr.obj id
        unfold ObjOk at h0 ⊢
        rw [hH'r id hir, hMr id hir]
        rw [hAr] at h0
        cases ho : hOf hr id with
        | dead => trivial
        | tail n => simp only [ho] at h0 ⊢; exact h0
        | row ty c =>
          simp only [ho] at h0 ⊢
          obtain ⟨cs, vs, g1, g2, g3, g4, g5⟩ := h0
          refine ⟨cs, vs, g1, g2, g3, g4, g5.move (Keeps.refl _ _) fun j hj => ?_⟩
          have hjr : j ∈ idsOf hr := by
            refine hrefs2 j (List.mem_flatMap.2 ⟨(id, y), hy, ?_⟩)
            have := hOf_in hnr hy
            rw [ho] at this
            subst this
            exact hj
          rw [hH'r j hjr, hMr j hjr]
          exact HOk.refl _ _
      · by_cases hic : id ∈ idsOf hc'
        · unfold ObjOk
          rw [hH'n id hir, if_pos hic]
          trivial
        · refine (hs.heap.obj id).move (hMn id hir) (by rw [hH'n id hir, if_neg hic]) hfr (fun b o h1 ⟨j, h2⟩ => ?_) hkc fun ty c hc j hj => hHOk j fun ⟨h1, h2⟩ => (hnew j h1 h2).2.2 id ty c hc hj
          have hjc : j ∈ idsOf hc' := Classical.byContradiction fun hn => h2.1 (hOf_notin hn)
          exact hs.heap.disj id j b o (fun e => hic (e ▸ hjc)) h1 (owc _ _ _ h2)
    · by_cases hir : i ∈ idsOf hr <;> by_cases hjr : j ∈ idsOf hr
      · exact hSr.disj i j b o hij ((ownr _ _ _ hir).1 h1) ((ownr _ _ _ hjr).1 h2)
      · obtain ⟨h3, h4⟩ := ownn _ _ _ hjr h2
        exact (hSr.far b o (.inr ⟨j, h3, h4⟩)).2 ⟨i, (ownr _ _ _ hir).1 h1⟩
      · obtain ⟨h3, h4⟩ := ownn _ _ _ hir h1
        exact (hSr.far b o (.inr ⟨i, h3, h4⟩)).2 ⟨j, (ownr _ _ _ hjr).1 h2⟩
      · exact hs.heap.disj i j b o hij (ownn _ _ _ hir h1).2 (ownn _ _ _ hjr h2).2
    · by_cases hir : id ∈ idsOf hr
      · exact (hSr.far b o (.inl hf)).2 ⟨id, (ownr _ _ _ hir).1 h⟩
      · exact (hs.heap.far b o hf).2 ⟨id, (ownn _ _ _ hir h).2⟩
  have hstep : Sim w' F M { s with H := H' } a.tmps :=
    hs.step (fun id => id ∈ idsOf hr ∧ id ∉ idsOf hc') hkc (fun id ⟨h1, h2⟩ => (hnew id h1 h2).2) (fun id h => hHOk id h) hSH
  have hrep' : RepV w' (St.av F M H') M H' x r := by
    rw [← hAr]
    exact hrep.move (Keeps.refl _ _) fun j hj => by
      rw [hH'r j (hrefs j hj), hMr j (hrefs j hj)]
      exact HOk.refl _ _
  refine hK x w' M ?_ hev
  have := hstep.put (a := a) (d := o.dst) hd hrep'
  have e1 : St.put { s with H := H' } o.dst r = s.app o { v := r, touch := hc', mod := (idsOf hc').map (fun i => (i, AObj.dead)) ++ hr, new := (idsOf hr).filter fun i => !(idsOf hc').contains i } := by
    cases ho : o.dst <;> simp [St.put, St.app, ho, H']
  rwa [e1] at this
end
end Go.Av
end

section
/- Abstract values: every operation that has an effect does it. -/
namespace Go.Av
open Go
set_option linter.unusedVariables false
set_option linter.unusedSimpArgs false
set_option linter.unusedSectionVars false
variable [Globs]

theorem args_vals {w : World} {F : Avoid} {m : Nat → Reg} {s : St} {a : Act} (hs : Sim w F m s a.tmps) (args : Array Operand) :
    (args.toList.map a.eval).length = (args.toList.map s.ev).length ∧ ∀ (i : Nat) x b, (args.toList.map a.eval)[i]? = some x → (args.toList.map s.ev)[i]? = some b → RepV w (St.av F m s.H) m s.H x b := by
  refine ⟨by simp, fun i x b hx hb => ?_⟩
  simp only [List.getElem?_map] at hx hb
  cases hc : args.toList[i]? with
  | none => simp [hc] at hx
  | some y => simp [hc] at hx hb; subst hx; subst hb; exact hs.eval y

theorem map_two {α β : Type} {f : α → β} {l : List α} {x y : β} (h : l.map f = [x, y]) : ∃ a b, l = [a, b] ∧ f a = x ∧ f b = y := by
  match l, h with
  | [a, b], h => simp at h; exact ⟨a, b, rfl, h.1, h.2⟩
theorem map_one {α β : Type} {f : α → β} {l : List α} {x : β} (h : l.map f = [x]) : ∃ a, l = [a] ∧ f a = x := by
  match l, h with
  | [a], h => simp at h; exact ⟨a, rfl, h⟩

section
variable {P : Program} {o : Oper} {s : St} {e : Eff}

theorem len_sound {c : Call} (ho : o.op = .call c) (hc : c.callee = .builtin .len) (h : aEff P o s.ev e) (ht : ∀ p ∈ e.touch, s.H p.1 = p.2) (hd : dstOk s o.dst) : Does P o s e := by
  simp only [aEff, ho, hc] at h
  split at h
  · rename_i k es t ha hta
    obtain ⟨⟨el, he⟩, rfl⟩ := h
    obtain ⟨x, hx, hev⟩ := map_one ha
    refine does_len_of ho hc (Array.ext' (by simpa using hx)) hd (Array.ext' (by simpa using hta)) he fun w F m a hs => ?_
    have h1 := hs.eval x
    rw [hev] at h1
    obtain ⟨ad, cp, e1, _⟩ := (h1.sl_of (.inl rfl)).sl_form
    exact ⟨ad, cp, e1⟩
  · rename_i tok k es t ha hta
    obtain ⟨⟨el, he⟩, rfl⟩ := h
    obtain ⟨x, hx, hev⟩ := map_one ha
    refine does_len_of ho hc (Array.ext' (by simpa using hx)) hd (Array.ext' (by simpa using hta)) he fun w F m a hs => ?_
    have h1 := hs.eval x
    rw [hev] at h1
    obtain ⟨ad, cp, e1, _⟩ := (h1.sl_of (.inr ⟨tok, rfl⟩)).sl_form
    exact ⟨ad, cp, e1⟩
  · rename_i t ha hta
    obtain ⟨⟨el, he⟩, rfl⟩ := h
    obtain ⟨x, hx, hev⟩ := map_one ha
    refine does_len_of (n := 0) ho hc (Array.ext' (by simpa using hx)) hd (Array.ext' (by simpa using hta)) he fun w F m a hs => ?_
    have h1 := hs.eval x
    rw [hev] at h1
    exact ⟨_, _, h1.pv⟩
  · rename_i str t ha hta
    obtain ⟨he, rfl⟩ := h
    obtain ⟨x, hx, hev⟩ := map_one ha
    exact does_len_str ho hc (Array.ext' (by simpa using hx)) hd (Array.ext' (by simpa using hta)) he hev
  · rename_i id path k n t ha hta
    obtain ⟨ty, cc, ⟨el, he⟩, rfl⟩ := h
    obtain ⟨x, hx, hev⟩ := map_one ha
    refine does_len_of ho hc (Array.ext' (by simpa using hx)) hd (Array.ext' (by simpa using hta)) he fun w F m a hs => ?_
    have h1 := hs.eval x
    rw [hev] at h1
    obtain ⟨cap, _, _, e1⟩ := h1.osl_val (ht (id, .row ty cc) (by simp))
    exact ⟨_, _, e1⟩
  · exact h.elim

theorem append_sound {c : Call} (ho : o.op = .call c) (hc : c.callee = .builtin .append) (h : aEff P o s.ev e) (ht : ∀ p ∈ e.touch, s.H p.1 = p.2) (hn : ∀ d ∈ e.new, s.H d = .dead ∧ noRef s.T s.H d) (hd : dstOk s o.dst) : Does P o s e := by
  simp only [aEff, ho, hc] at h
  split at h
  · rename_i x0 y0 t t' ha hta
    obtain ⟨el, ag, sz, by', xs, tc, rfl, h1, h2, h3, h4, h5, h6, h7, h8, h9⟩ := h
    obtain ⟨x, y, hxy, hx, hy⟩ := map_two ha
    have hargs : c.args = #[x, y] := Array.ext' (by simpa using hxy)
    have T : AppTy P t' el sz by' := ⟨h1, ⟨ag, h2⟩, h3, h4, h5, h6, h7⟩
    subst hx; subst hy
    unfold appEff at h9
    split at h9
    · rename_i hx
      obtain ⟨d, hdst, hlt, hlim, h9⟩ := h9
      rcases h9 with rfl | ⟨kd, l, rfl, hl0, rfl, rfl⟩
      · have := hn d (by simp)
        exact does_append_nil ho hc hargs (Array.ext' (by simpa using hta)) hd T hx hlt this.1 this.2 h8 ht hlim
      · have := hn d (by simp)
        exact does_append_row ho hc hargs (Array.ext' (by simpa using hta)) hd T hx hlt this.1 this.2 h8 ht (by simpa using hlim) hl0
    · rename_i tok k es hx
      obtain ⟨rfl, hlim, rfl⟩ := h9
      exact does_append_slt ho hc hargs (Array.ext' (by simpa using hta)) hd T hx (ht (tok, .tail es.length) (by simp)) h8 (fun p hp => ht p (by simp [hp])) hlim
    · exact h9.elim
  · exact h.elim

theorem mods_same {l : List (Nat × AObj)} {H : Nat → AObj} (hn : (idsOf l).Nodup) (h : ∀ p ∈ l, H p.1 = p.2) : mods H ((idsOf l).map (fun i => (i, .dead)) ++ l) = H := by
  funext id
  rw [mods_append]
  by_cases hi : id ∈ idsOf l
  · obtain ⟨x, hx⟩ := ids_mem hi
    rw [mods_in hn hx]
    exact (h _ hx).symm
  · rw [mods_notin hi]
    exact mods_notin (by simpa [idsOf] using hi)
theorem does_call {f : FuncId} {args : List AV} {e : Eff} (hd : dstOk s o.dst) (hc : callEff P f args e) (ht : ∀ p ∈ e.touch, s.H p.1 = p.2) (hn : ∀ d ∈ e.new, s.H d = .dead ∧ noRef s.T s.H d)
    (hrun : ∀ (w : World) (F : Avoid) (m : Nat → Reg) (a : Act), Sim w F m s a.tmps → ∃ vals : List Value, vals.length = args.length ∧
      (∀ (i : Nat) x b, vals[i]? = some x → args[i]? = some b → RepV w (St.av F m s.H) m s.H x b) ∧ (execOp a.eval o).run P w = .ok (.enter f vals.toArray) w) : Does P o s e := by
  rcases hc with hc | ⟨r, hc', hF, hnd, rfl⟩
  · exact does_callF hd hc ht hn hrun
  · have := does_callF hd hF ht (by simp) hrun
    have e := mods_same (H := s.H) hnd ht
    intro w F m a K Q hs hK
    refine this w F m a K Q hs fun x w' m' h1 h2 => hK x w' m' ?_ ?_
    · unfold St.app at h1 ⊢
      simp only [e] at h1
      exact h1
    · simp only [e] at h2
      exact h2

theorem callEff.callable {g : FuncId} {args : List AV} (h : callEff P g args e) : callable P g = true := by
  rcases h with ⟨_, _, _, _, hc, _⟩ | ⟨_, _, ⟨_, _, _, _, hc, _⟩, _⟩
  · exact hc.1
  · exact hc.1

theorem run_callable {g : FuncId} (h : Av.callable P g = true) (args : Array Value) (w : World) : (callFunc g args).run P w = .ok (.enter g args) w := by
  unfold Av.callable at h
  cases hf : P.funcs[g]? with
  | none => simp [hf] at h
  | some fn =>
    simp only [hf, Bool.and_eq_true] at h
    obtain ⟨h1, h2⟩ := h
    have h4 : fn.body.isNone = false := by cases hb : fn.body <;> simp_all
    have h5 : (fn.name == "runtime.NumGoroutine") = false := by simpa using h2
    unfold callFunc
    simp only [Sem.run_bind, run_program, Result.andThen_ok, hf]
    simp [h5, h4]

theorem call_sound {c : Call} (ho : o.op = .call c) (h : aEff P o s.ev e) (ht : ∀ p ∈ e.touch, s.H p.1 = p.2) (hn : ∀ d ∈ e.new, s.H d = .dead ∧ noRef s.T s.H d) (hd : dstOk s o.dst) : Does P o s e := by
  cases hc : c.callee with
  | builtin b =>
    cases b with
    | len => exact len_sound ho hc h ht hd
    | append => exact append_sound ho hc h ht hn hd
    | min =>
      simp only [aEff, ho, hc] at h
      split at h
      · rename_i k x k' y ha
        obtain ⟨rfl, rfl⟩ := h
        obtain ⟨a, b, hab, h1, h2⟩ := map_two ha
        exact does_min ho hc (Array.ext' (by simpa using hab)) hd h1 h2
      · exact h.elim
    | max =>
      simp only [aEff, ho, hc] at h
      split at h
      · rename_i k x k' y ha
        obtain ⟨rfl, rfl⟩ := h
        obtain ⟨a, b, hab, h1, h2⟩ := map_two ha
        exact does_max ho hc (Array.ext' (by simpa using hab)) hd h1 h2
      · exact h.elim
    | _ => simp [aEff, ho, hc] at h
  | invoke r mth => simp [aEff, ho, hc] at h
  | value f =>
    simp only [aEff, ho, hc] at h
    split at h
    · rename_i g first captured hev
      obtain ⟨rfl, rfl, h⟩ := h
      refine does_call hd h ht hn fun w F m a hs => ⟨c.args.toList.map a.eval, by simp, (args_vals hs c.args).2, ?_⟩
      have hf := hs.eval f
      rw [hev] at hf
      have e1 := hf.pv
      have e2 : c.args.map a.eval = (c.args.toList.map a.eval).toArray := Array.ext' (by simp)
      have := run_callable h.callable (c.args.toList.map a.eval).toArray w
      simp [execOp, ho, resolve, hc, e1, Deferred.ofValue, invoke, e2, this]
    · rename_i g caps hev
      refine does_call hd h ht hn fun w F m a hs => ?_
      have hf := hs.eval f
      rw [hev] at hf
      have hf1 := hf.single rfl rfl
      generalize hv : [a.eval f] = vs at hf1
      cases hf1 with
      | @fn _ vals _ hl hag hall =>
        injection hv with hv
        have e2 : c.args.map a.eval = (c.args.toList.map a.eval).toArray := Array.ext' (by simp)
        refine ⟨c.args.toList.map a.eval ++ vals, by simp [hl], fun i x b hx hb => ?_, ?_⟩
        · obtain ⟨q1, q2⟩ := args_vals hs c.args
          by_cases hi : i < (c.args.toList.map a.eval).length
          · rw [List.getElem?_append_left hi] at hx
            rw [List.getElem?_append_left (by rw [← q1]; exact hi)] at hb
            exact q2 i x b hx hb
          · rw [List.getElem?_append_right (by omega)] at hx
            rw [List.getElem?_append_right (by rw [← q1]; omega), ← q1] at hb
            exact .one (hall _ _ _ hb hx) (hag _ _ hb)
        · have := run_callable h.callable (c.args.toList.map a.eval ++ vals).toArray w
          rw [← List.append_toArray] at this
          simp only [execOp, ho, resolve, hc, hv, Deferred.ofValue, invoke, Sem.run_bind, Sem.run_pure, Result.andThen_ok, e2]
          simpa using this
    · exact h.elim

theorem aEff_sound (h : aEff P o s.ev e) (ht : ∀ p ∈ e.touch, s.H p.1 = p.2) (hn : ∀ d ∈ e.new, s.H d = .dead ∧ noRef s.T s.H d) (hd : dstOk s o.dst) : Does P o s e := by
  cases ho : o.op with
  | move x => simp only [aEff, ho] at h; subst h; exact does_move (.inl ho) hd
  | assign x => simp only [aEff, ho] at h; subst h; exact does_move (.inr ho) hd
  | pick c a b => simp only [aEff, ho] at h; obtain ⟨t, hc, rfl⟩ := h; exact does_pick ho hc hd
  | alloc t =>
    simp only [aEff, ho] at h
    obtain ⟨d, z, h1, h2, h3, h4, rfl⟩ := h
    have := hn d (by simp)
    exact does_alloc ho hd h1 h2 h3 h4 this.1 this.2
  | box t x =>
    simp only [aEff, ho] at h
    obtain ⟨d, h1, h2, h3, h4, rfl⟩ := h
    have := hn d (by simp)
    exact does_box ho hd h1 h2 h3 h4 this.1 this.2
  | load t x =>
    simp only [aEff, ho] at h
    split at h
    · rename_i id path hx
      obtain ⟨ty, c, c', h1, h2, h3, rfl⟩ := h
      exact does_load_ptr ho hd hx (ht (id, .row ty c) (by simp)) h1 h2 h3
    · rename_i y hx
      obtain ⟨h1, rfl⟩ := h
      exact does_load_pp ho hd hx h1
    · exact h.elim
  | store t x y =>
    simp only [aEff, ho] at h
    split at h
    · rename_i id path hx
      obtain ⟨ty, c, old, c', ag, h1, h2, h3, h4, h5, h6, rfl⟩ := h
      exact does_store ho h1 hx (ht (id, .row ty c) (by simp)) h2 h3 h4 h5 h6
    · exact h.elim
  | nilCheck x =>
    simp only [aEff, ho] at h
    split at h
    · rename_i id path hx
      obtain ⟨ty, c, rfl⟩ := h
      exact does_nilCheck_ptr ho hd hx (ht (id, .row ty c) (by simp))
    · rename_i y hx
      subst h
      exact does_nilCheck_pp ho hd hx
    · exact h.elim
  | binOp op t x y ty =>
    simp only [aEff, ho] at h
    split at h
    · rename_i X Y hx hy
      obtain ⟨r, h1, rfl⟩ := h
      exact does_binOp ho hd hx hy h1
    · rename_i id path hx hy
      obtain ⟨rt, c, el, h1, h2⟩ := h
      rcases h2 with ⟨h2, rfl⟩ | ⟨h2, rfl⟩
      · exact does_binOp_nil ho hd hx (ht (id, .row rt c) (by simp)) hy h1 (.inl ⟨h2, rfl⟩)
      · exact does_binOp_nil ho hd hx (ht (id, .row rt c) (by simp)) hy h1 (.inr ⟨h2, rfl⟩)
    · exact h.elim
  | unOp op t x => simp only [aEff, ho] at h; obtain ⟨vx, r, h1, h2, rfl⟩ := h; exact does_unOp ho hd h1 h2
  | convert src dst x =>
    simp only [aEff, ho] at h
    split at h
    · rename_i kx n hx
      obtain ⟨k, ks, h1, h2, rfl⟩ := h
      exact does_convert_int ho hd hx h1 h2
    · obtain ⟨el, l, h1, h2, h3, ⟨xs, h4, h5⟩, rfl⟩ := h
      exact does_convert_str ho hd h1 h2 h3 h4 h5
  | makeInterface t x => simp only [aEff, ho] at h; obtain ⟨h1, vx, h2, rfl⟩ := h; exact does_makeInterface ho hd h1 h2
  | makeFunc f first caps => simp only [aEff, ho] at h; obtain ⟨h1, h2, rfl⟩ := h; exact does_makeFunc ho hd h1 h2
  | fieldAddr t x f =>
    simp only [aEff, ho] at h
    split at h
    · rename_i id path hx
      obtain ⟨ty, c, c', shs, off, ft, ag, n, h1, h2, h3, h4, h5, h6, rfl⟩ := h
      exact does_fieldAddr_ptr ho hd hx (ht (id, .row ty c) (by simp)) h1 h2 h3 h4 h5 h6
    · rename_i fs hx
      obtain ⟨g, off, ft, ag, n, h1, h2, h3, h4, h5, rfl⟩ := h
      exact does_fieldAddr_pp ho hd hx h1 h2 h3 h4 h5
    · exact h.elim
  | field t x f =>
    simp only [aEff, ho] at h
    split at h
    · rename_i fs hx
      obtain ⟨g, off, ft, h1, h2, h3, h4, rfl⟩ := h
      exact does_field_p ho hd hx h1 h2 h3 h4
    · rename_i fs hx
      obtain ⟨g, off, ft, h1, h2, h3, h4, h5, rfl⟩ := h
      exact does_field_st ho hd hx h1 h2 h3 h4 h5
    · exact h.elim
  | indexAddr t x i =>
    simp only [aEff, ho] at h
    obtain ⟨k, n, hi, h0, h⟩ := h
    split at h
    · rename_i sz es hx
      obtain ⟨el, ag, g, h1, h2, h3, rfl⟩ := h
      exact does_indexAddr_sl ho hd hi h0 (.inl hx) h1 h2 h3
    · rename_i tok sz es hx
      obtain ⟨el, ag, g, h1, h2, h3, rfl⟩ := h
      exact does_indexAddr_sl ho hd hi h0 (.inr ⟨tok, hx⟩) h1 h2 h3
    · rename_i id path sz len hx
      obtain ⟨ty, c, c', el, ag, h1, h2, h3, h4, h5, h6, rfl⟩ := h
      exact does_indexAddr_osl ho hd hi h0 hx (ht (id, .row ty c) (by simp)) h1 h2 h3 h4 h5 h6
    · rename_i id path hx
      obtain ⟨ty, c, c', el, ag, sz, len, h1, h2, h3, h4, h5, h6, rfl⟩ := h
      exact does_indexAddr_ptr ho hd hi h0 hx (ht (id, .row ty c) (by simp)) h1 h2 h3 h4 h5 h6
    · rename_i y hx
      obtain ⟨g, el, ag, sz, len, h1, h2, h3, h4, h5, rfl⟩ := h
      exact does_indexAddr_pp ho hd hi h0 hx h1 h2 h3 h4 h5
    · exact h.elim
  | index t x i =>
    simp only [aEff, ho] at h
    obtain ⟨k, n, hi, h0, h⟩ := h
    split at h
    · rename_i k' len l hx
      obtain ⟨el, u, h1, h2, h3, rfl⟩ := h
      exact does_index_ints ho hd hi h0 hx h1 h2 h3
    · rename_i str hx
      obtain ⟨u, h1, h2, rfl⟩ := h
      exact does_index_string ho hd hi h0 hx h1 h2
    · exact h.elim
  | extract x i =>
    simp only [aEff, ho] at h
    split at h
    · rename_i vs hx
      obtain ⟨a, h1, rfl⟩ := h
      exact does_extract ho hd hx h1
    · exact h.elim
  | slice t x lo hi mx =>
    simp only [aEff, ho] at h
    split at h
    · rename_i id path hx hlo hhi hmx
      obtain ⟨ty, c, c', len, el, sz, ag, h1, h2, h3, h4, h5, rfl⟩ := h
      have e1 : lo = none := by simpa using hlo
      have e2 : hi = none := by simpa using hhi
      have e3 : mx = none := by simpa using hmx
      subst e1; subst e2; subst e3
      exact does_slice_arr (c' := c') ho hd hx (ht (id, .row ty c) (by simp)) h3 h4 h5
    · rename_i sz es hx hmx
      obtain ⟨el, ag, a, b, h1, h2, h3, h4, h5, h6, rfl⟩ := h
      have e3 : mx = none := by simpa using hmx
      subst e3
      exact does_slice_sl ho hd (.inl hx) h1 h2 h3 h4 h5 h6
    · rename_i tok sz es hx hmx
      obtain ⟨el, ag, a, b, h1, h2, h3, h4, h5, h6, rfl⟩ := h
      have e3 : mx = none := by simpa using hmx
      subst e3
      exact does_slice_sl ho hd (.inr ⟨tok, hx⟩) h1 h2 h3 h4 h5 h6
    · rename_i hx hmx
      obtain ⟨el, ag, sz, h1, h2, h3, h4, rfl⟩ := h
      have e3 : mx = none := by simpa using hmx
      subst e3
      exact does_slice_nil ho hd hx h1 h2 h3 h4
    · rename_i sz es kh hv km mv hx hhi hmx
      obtain ⟨el, ag, a, d, h1, h2, h3, h4, h5, h6, rfl, h7, h8, rfl⟩ := h
      obtain ⟨hh, rfl, hh2⟩ := Option.map_eq_some_iff.1 hhi
      obtain ⟨hm, rfl, hm2⟩ := Option.map_eq_some_iff.1 hmx
      have := hn d (by simp)
      exact does_slice3 ho hd hx h3 h4 h5 hh2 hm2 h6 h7 h8 h2 this.1 this.2
    · exact h.elim
  | build t parts => simp only [aEff, ho] at h; obtain ⟨z, c, h1, h2, h3, h4, h5, rfl⟩ := h; exact does_build ho hd h1 h2 h3 h4 h5
  | buildSlice t len parts => simp only [aEff, ho] at h; obtain ⟨el, ag, sz, z, ps, es, h1, h2, h3, h4, h5, h6, h7, h8, h9, rfl⟩ := h; exact does_buildSlice ho hd h1 h2 h3 h4 h5 h6 h7 h8 h9
  | call c => exact call_sound ho h ht hn hd
  | _ => simp [aEff, ho] at h
end
/-- An operation with a law of its own. -/
def Cust (P : Program) (dst : Option Tmp) (op : Op) (ev : Operand → AV) (e : Eff) : Prop :=
  ∀ (o : Oper) (s : St), o.op = op → o.dst = dst → (∀ x ∈ op.operands, s.ev x = ev x) → (∀ p ∈ e.touch, s.H p.1 = p.2) → (∀ d ∈ e.new, s.H d = .dead ∧ noRef s.T s.H d) → dstOk s dst → Does P o s e
def xEff (P : Program) (o : Oper) (ev : Operand → AV) (e : Eff) : Prop := aEff P o ev e ∨ Cust P o.dst o.op ev e
theorem xEff_sound {P : Program} {o : Oper} {s : St} {e : Eff} (h : xEff P o s.ev e) (ht : ∀ p ∈ e.touch, s.H p.1 = p.2) (hn : ∀ d ∈ e.new, s.H d = .dead ∧ noRef s.T s.H d) (hd : dstOk s o.dst) : Does P o s e := by
  rcases h with h | h
  · exact aEff_sound h ht hn hd
  · exact h o s rfl rfl (fun _ _ => rfl) ht hn hd
end Go.Av
end

section
/- Abstract values: walks over a function's code, state by state; what a whole function does. -/
namespace Go.Av
open Go
set_option linter.unusedVariables false
set_option linter.unusedSimpArgs false
set_option linter.unusedSectionVars false
variable [Globs]

/-! ### states as lists -/
def lkT : List (Nat × AV) → Nat → AV
  | [], _ => .any 1
  | p :: l, j => if j = p.1 then p.2 else lkT l j
def lkH : List (Nat × AObj) → Nat → AObj
  | [], _ => .dead
  | p :: l, j => if j = p.1 then p.2 else lkH l j
theorem lkT_cons (i : Nat) (v : AV) (l : List (Nat × AV)) (j : Nat) : lkT ((i, v) :: l) j = if j = i then v else lkT l j := rfl
theorem lkH_cons (i : Nat) (v : AObj) (l : List (Nat × AObj)) (j : Nat) : lkH ((i, v) :: l) j = if j = i then v else lkH l j := rfl
theorem lkT_nil (j : Nat) : lkT [] j = .any 1 := rfl
theorem lkH_nil (j : Nat) : lkH [] j = .dead := rfl

structure LS where
  n : Nat
  T : List (Nat × AV)
  H : List (Nat × AObj)

def LS.st (s : LS) : St := ⟨s.n, lkT s.T, lkH s.H⟩
def LS.ev (s : LS) : Operand → AV
  | .tmp t => lkT s.T t
  | .const v => if v.oneCell' then .p (.v v) else .any 1
  | .global g => globV (lkG Globs.G g) g
  | .func f => .p (.v (.func (.func f) #[] #[]))
theorem LS.ev_st (s : LS) : s.st.ev = s.ev := by funext x; cases x <;> rfl
def LS.app (s : LS) (d : Option Tmp) (e : Eff) : LS := ⟨s.n, match d with | some d => (d, e.v) :: s.T | none => s.T, e.mod.reverse ++ s.H⟩
def objRefs : AObj → List Nat
  | .row _ c => c.refs
  | _ => []
def LS.free (s : LS) (d : Nat) : Prop := (∀ p ∈ s.T, d ∉ p.2.refs) ∧ (∀ p ∈ s.H, d ∉ objRefs p.2)

theorem lkH_mods (l : List (Nat × AObj)) : ∀ H : List (Nat × AObj), lkH (l.reverse ++ H) = mods (lkH H) l := by
  induction l with
  | nil => intro H; rfl
  | cons p l ih =>
    intro H
    simp only [List.reverse_cons, List.append_assoc, List.singleton_append]
    rw [ih]
    rfl
theorem LS.st_app (s : LS) (o : Oper) (e : Eff) : (s.app o.dst e).st = s.st.app o e := by
  unfold LS.st LS.app St.app
  cases o.dst <;> simp [St.put, lkH_mods] <;> rfl
theorem lkT_mem {l : List (Nat × AV)} {i : Nat} : lkT l i = .any 1 ∨ ∃ p ∈ l, p.2 = lkT l i := by
  induction l with
  | nil => exact .inl rfl
  | cons p l ih =>
    simp only [lkT]
    split
    · exact .inr ⟨p, by simp, rfl⟩
    · rcases ih with h | ⟨q, h1, h2⟩
      · exact .inl h
      · exact .inr ⟨q, by simp [h1], h2⟩
theorem lkH_mem {l : List (Nat × AObj)} {i : Nat} : lkH l i = .dead ∨ ∃ p ∈ l, p.2 = lkH l i := by
  induction l with
  | nil => exact .inl rfl
  | cons p l ih =>
    simp only [lkH]
    split
    · exact .inr ⟨p, by simp, rfl⟩
    · rcases ih with h | ⟨q, h1, h2⟩
      · exact .inl h
      · exact .inr ⟨q, by simp [h1], h2⟩
theorem LS.free_noRef {s : LS} {d : Nat} (h : s.free d) : noRef s.st.T s.st.H d := by
  refine ⟨fun i => ?_, fun j e c hc => ?_⟩
  · rcases lkT_mem (l := s.T) (i := i) with h1 | ⟨p, h1, h2⟩
    · show d ∉ (lkT s.T i).refs
      rw [h1]
      simp [AV.refs]
    · show d ∉ (lkT s.T i).refs
      rw [← h2]
      exact h.1 p h1
  · have hc : lkH s.H j = .row e c := hc
    rcases lkH_mem (l := s.H) (i := j) with h1 | ⟨p, h1, h2⟩
    · rw [h1] at hc; cases hc
    · have := h.2 p h1
      rw [h2, hc] at this
      exact this

/-! ### regions in the order of the text -/
def dOk (n : Nat) (d : Option Tmp) : Prop := match d with | some d => d < n | none => True
theorem dOk_st {s : LS} {d : Option Tmp} (h : dOk s.n d) : dstOk s.st d := by cases d <;> exact h
theorem st_put_any (s : LS) (o : Oper) (v : AV) : s.st.put o.dst v = s.st.app o { v := v } := by
  unfold St.app
  cases ho : o.dst <;> simp [St.put, mods]
/-- One operation: there is an effect, what it looks at is there, what it makes is new. -/
def aOp (P : Program) (o : Oper) (s : LS) (K : LS → Prop) : Prop :=
  (∃ t x y ty k el, o.op = .binOp .eql t x y ty ∧ s.ev x = .p (.sl k []) ∧ s.ev y = .p (.v (.slice none 0 0)) ∧ P.underlying t = some (.slice el) ∧ dOk s.n o.dst ∧ ∀ b, K (s.app o.dst { v := .p (.v (.bool b)) })) ∨
  (∃ t el sz ag, o.op = .buildSlice t 0 #[] ∧ elOf P t = some el ∧ ldOf P el = some (ag, sz) ∧ dOk s.n o.dst ∧ ∀ a, K (s.app o.dst { v := .p (.v (.slice a 0 0)) })) ∨ ∃ e, xEff P o s.ev e ∧ (∀ p ∈ e.touch, lkH s.H p.1 = p.2) ∧ (∀ d ∈ e.new, lkH s.H d = .dead ∧ s.free d) ∧ dOk s.n o.dst ∧ K (s.app o.dst e)
/-- What a guard's slot says: a truth value, or nothing (its own operation was passed over). -/
def gval : AV → Option (Option Bool)
  | .p (.v (.bool b)) => some (some b)
  | .tup [] => some none
  | _ => none
theorem gval_spec {a : AV} {ob : Option Bool} (h : gval a = some ob) : (∃ b, a = .p (.v (.bool b)) ∧ ob = some b) ∨ (a = .tup [] ∧ ob = none) := by
  unfold gval at h
  split at h
  · injection h with h; exact .inl ⟨_, rfl, h.symm⟩
  · injection h with h; exact .inr ⟨rfl, h.symm⟩
  · cases h
def skipE : Eff := { v := .tup [] }
def guardD (ops : Array Oper) (j : Nat) : Option Tmp := (ops[j]?).bind (·.dst)
def aOps (P : Program) (ops : Array Oper) : List Oper → LS → (LS → Prop) → Prop
  | [], s, K => K s
  | o :: r, s, K =>
    match o.guard with
    | none => aOp P o s fun s' => aOps P ops r s' K
    | some (j, want) => ∃ d ob, guardD ops j = some d ∧ gval (lkT s.T d) = some ob ∧ (ob = some want → aOp P o s fun s' => aOps P ops r s' K) ∧ (ob ≠ some want → dOk s.n o.dst ∧ aOps P ops r (s.app o.dst skipE) K)

theorem RepP.sl_nil {w : World} {A : Avoid} {vs : List Value} {k : Nat} (h : RepP w A vs (.sl k [])) : ∃ b c, vs = [.slice b 0 c] := by
  cases h with
  | sln => exact ⟨_, _, rfl⟩
  | sl g hn _ _ _ _ => simp at hn; subst hn; exact ⟨_, _, rfl⟩
theorem RepV.sl_nil {w : World} {A : Avoid} {m : Nat → Reg} {H : Nat → AObj} {z : Value} {k : Nat} (h : RepV w A m H z (.p (.sl k []))) : ∃ b c, z = .slice b 0 c := by
  generalize hq : AV.p (.sl k []) = q at h
  cases h with
  | any => cases hq
  | one h _ =>
    subst hq
    obtain ⟨b, c, e⟩ := h.p_inv.sl_nil
    injection e with e _
    exact ⟨b, c, e⟩
  | agg _ h => subst hq; simp [AV.isAgg] at h
  | tup _ _ => cases hq
theorem RepC.no_tup {w : World} {A : Avoid} {m : Nat → Reg} {H : Nat → AObj} {vs : List Value} {as : List AV} (h : RepC w A m H vs (.tup as)) : False := by cases h
theorem RepV.tup_nil {w : World} {A : Avoid} {m : Nat → Reg} {H : Nat → AObj} {z : Value} (h : RepV w A m H z (.tup [])) : z = undef := by
  cases h with
  | one h _ => exact (RepC.no_tup h).elim
  | agg h _ => exact (RepC.no_tup h).elim
  | @tup xs vs hl h =>
    cases xs with
    | nil => rfl
    | cons a l => simp at hl
theorem RepV.undef_nil {w : World} {A : Avoid} {m : Nat → Reg} {H : Nat → AObj} : RepV w A m H undef (.tup []) :=
  RepV.tup (xs := []) rfl fun i x a hx => by simp at hx
theorem St.yielded {w : World} {F : Avoid} {m : Nat → Reg} {s : St} {a : Act} (hs : Sim w F m s a.tmps) {ops : Array Oper} {j : Nat} {d : Tmp} {ob : Option Bool} (hd : guardD ops j = some d) (hb : gval (s.T d) = some ob) : yielded ops a.tmps j = ob := by
  have h1 := hs.tmp d
  have hd' : (ops[j]?).bind (·.dst) = some d := hd
  unfold Go.yielded
  rw [hd']
  simp only [Option.bind_some]
  rcases gval_spec hb with ⟨b, h2, rfl⟩ | ⟨h2, rfl⟩
  · rw [h2] at h1
    have h3 := h1.pv
    rcases Nat.lt_or_ge d a.tmps.size with hlt | hge
    · rw [Array.getElem?_eq_getElem hlt]
      have : a.tmps[d] = .bool b := by rw [← h3]; simp [Array.getD, hlt]
      rw [this]
    · have e1 : a.tmps.getD d undef = undef := by simp [Array.getD, Nat.not_lt.2 hge]
      rw [e1] at h3
      cases h3
  · rw [h2] at h1
    have h3 := h1.tup_nil
    rcases Nat.lt_or_ge d a.tmps.size with hlt | hge
    · rw [Array.getElem?_eq_getElem hlt]
      have : a.tmps[d] = undef := by rw [← h3]; simp [Array.getD, hlt]
      rw [this]
      rfl
    · rw [Array.getElem?_eq_none hge]
theorem yielded_of {w : World} {F : Avoid} {m : Nat → Reg} {s : LS} {a : Act} (hs : Sim w F m s.st a.tmps) {ops : Array Oper} {j : Nat} {d : Tmp} {ob : Option Bool} (hd : guardD ops j = some d) (hb : gval (lkT s.T d) = some ob) : yielded ops a.tmps j = ob :=
  St.yielded hs hd hb

theorem range_cons (n k : Nat) (h : k < n) : (List.range n).drop k = k :: (List.range n).drop (k + 1) := by
  rw [List.drop_eq_getElem_cons (by simpa using h)]
  simp

theorem aOps_sound {P : Program} {ops : Array Oper} {Q : Exit → Act → World → Prop} {K : LS → Prop} {w0 : World} {m0 : Nat → Reg} {H0 : Nat → AObj} {F : Avoid}
    (hK : ∀ (s : LS) (w : World) (m : Nat → Reg) (a : Act), Sim w F m s.st a.tmps → a.defers = [] → Ev w0 m0 H0 w m s.st.H → K s → Q .normal a w) :
    ∀ (l : List Oper) (k : Nat), ops.toList.drop k = l → ∀ (s : LS) (w : World) (m : Nat → Reg) (a : Act), Sim w F m s.st a.tmps → a.defers = [] → Ev w0 m0 H0 w m s.st.H → aOps P ops l s K →
      wpOps P ops Q ((List.range ops.size).drop k) a w
  | [], k, hl, s, w, m, a, hs, hd, hev, h => by
    have hk : ops.size ≤ k := by have := congrArg List.length hl; simp at this; omega
    rw [List.drop_eq_nil_of_le (by simpa using hk)]
    exact hK s w m a hs hd hev h
  | o :: l, k, hl, s, w, m, a, hs, hd, hev, h => by
    have hk : k < ops.size := by have := congrArg List.length hl; simp at this; omega
    have ho : ops[k]? = some o := by
      have := congrArg (fun x => x[0]?) hl
      simp only [List.getElem?_drop, List.getElem?_cons_zero, Nat.add_zero] at this
      simpa using this
    have hl' : ops.toList.drop (k + 1) = l := by
      have := congrArg List.tail hl
      simpa [List.tail_drop] using this
    rw [range_cons _ _ hk]
    have run : aOp P o s (fun s' => aOps P ops l s' K) → o.wp P a w (wpOps P ops Q ((List.range ops.size).drop (k + 1))) Q := by
      rintro (⟨t, x, y, ty, k', el, h1, h2, h3, h4, h5, h6⟩ | ⟨t, el, sz, ag, h1, h2, h3, h4, h5⟩ | ⟨e, h1, h2, h3, h4, h5⟩)
      · have hx := hs.eval x
        have hy := hs.eval y
        rw [LS.ev_st, h2] at hx
        rw [LS.ev_st, h3] at hy
        have hy := hy.pv
        obtain ⟨b, c, hb⟩ : ∃ b c, a.eval x = .slice b 0 c := by
          exact hx.sl_nil
        have hev2 : Ev w m s.st.H w m (s.app o.dst { v := .p (.v (.bool (b.isNone))) }).st.H := Ev.refl _ _ _
        have hs' : Sim w F m (s.app o.dst { v := .p (.v (.bool (b.isNone))) }).st (a.put o.dst (.bool b.isNone)).tmps := by
          rw [LS.st_app]
          have := hs.put (a := a) (d := o.dst) (x := .bool b.isNone) (v := .p (.v (.bool b.isNone))) (dOk_st h5) (RepV.of_v rfl)
          have e1 : s.st.put o.dst (.p (.v (.bool b.isNone))) = s.st.app o { v := .p (.v (.bool b.isNone)) } := by
            unfold St.app
            cases ho : o.dst <;> simp [St.put, mods]
          rwa [e1] at this
        have hrun : (execOp a.eval o).run P w = .ok (.value (.bool b.isNone)) w := by
          simp only [execOp, h1, hb, hy]
          have e1 : (eqGuard .eql t x y (.slice b 0 c) (.slice none 0 0)).run P w = .ok () w := by simp [eqGuard]
          have e2 : (binOp .eql t (.slice b 0 c) (.slice none 0 0)).run P w = .ok (.bool b.isNone) w := by
            have : binOp .eql t (.slice b 0 c) (.slice none 0 0) = (do pure (.bool (← Op.equal t (.slice b 0 c) (.slice none 0 0)))) := rfl
            rw [this]
            have e3 : ∀ n, (Op.equalIn (n + 1) t (.slice b 0 c) (.slice none 0 0)).run P w = .ok b.isNone w := fun n => by
              cases b <;> simp [Op.equalIn, run_underlying h4]
            have e4 : (Op.equal t (.slice b 0 c) (.slice none 0 0)).run P w = .ok b.isNone w := e3 9999
            simp only [Sem.run_bind, e4, Result.andThen_ok, Sem.run_pure]
          simp [Sem.run_bind, e1, e2]
        unfold Oper.wp
        rw [hrun, Oper.upon_value]
        exact aOps_sound hK l (k + 1) hl' _ w m _ hs' (by cases o.dst <;> simpa [Act.put] using hd) (hev.trans hev2) (h6 _)
      · have hrun : (execOp a.eval o).run P w = .ok (.value (.slice (some ⟨w.heap.size, 0, none⟩) 0 0)) (w.alloc (.cells #[] el)) := by
          have hz' := (ldOf_run h3 w).2
          have hu : P.underlying t = some (.slice el) := el_run h2
          have e0 : Array.range 0 = #[] := rfl
          simp [execOp, h1, Instr.buildSlice, run_underlying hu, hz', Instr.fill, newRow, e0]
        have fr : Fr (fun _ _ => False) w (w.alloc (.cells #[] el)) := Fr.alloc _ _
        have hs1 := hs.grow fr
        have hev2 : Ev w m s.st.H (w.alloc (.cells #[] el)) m (s.app o.dst { v := .p (.v (.slice (some ⟨w.heap.size, 0, none⟩) 0 0)) }).st.H := Ev.of_fr (fr.mono fun _ _ _ h => h.elim)
        have hs' : Sim (w.alloc (.cells #[] el)) F m (s.app o.dst { v := .p (.v (.slice (some ⟨w.heap.size, 0, none⟩) 0 0)) }).st (a.put o.dst (.slice (some ⟨w.heap.size, 0, none⟩) 0 0)).tmps := by
          rw [LS.st_app]
          have := hs1.put (a := a) (d := o.dst) (x := .slice (some ⟨w.heap.size, 0, none⟩) 0 0) (v := .p (.v (.slice (some ⟨w.heap.size, 0, none⟩) 0 0))) (dOk_st h4) (RepV.of_v rfl)
          rwa [st_put_any] at this
        unfold Oper.wp
        rw [hrun, Oper.upon_value]
        exact aOps_sound hK l (k + 1) hl' _ _ m _ hs' (by cases o.dst <;> simpa [Act.put] using hd) (hev.trans hev2) (h5 _)
      have hdo : Does P o s.st e := xEff_sound (by rw [LS.ev_st]; exact h1) h2 (fun d hd => ⟨(h3 d hd).1, LS.free_noRef (h3 d hd).2⟩) (dOk_st h4)
      refine hdo w F m a _ Q hs fun x w' m' hs' hev' => ?_
      rw [← LS.st_app] at hs'
      have hev2 : Ev w m s.st.H w' m' (s.app o.dst e).st.H := by rw [LS.st_app]; exact hev'
      exact aOps_sound hK l (k + 1) hl' _ w' m' _ hs' (by cases o.dst <;> simpa [Act.put] using hd) (hev.trans hev2) h5
    simp only [wpOps, ho]
    simp only [aOps] at h
    split at h
    · rename_i hg
      simp only [Region.wanted, hg, if_true]
      exact .inl (run h)
    · rename_i j want hg
      obtain ⟨d, ob, g1, g2, g3, g4⟩ := h
      have hy := yielded_of hs g1 g2
      by_cases hb : ob = some want
      · have hw : Region.wanted o (yielded ops a.tmps) = true := by simp [Region.wanted, hg, hy, hb]
        simp only [hw, if_true]
        exact .inl (run (g3 hb))
      · have hw : Region.wanted o (yielded ops a.tmps) = false := by simp [Region.wanted, hg, hy, hb]
        simp only [hw, Bool.false_eq_true, if_false]
        obtain ⟨g5, g6⟩ := g4 hb
        have hs' : Sim w F m (s.app o.dst skipE).st (a.put o.dst undef).tmps := by
          rw [LS.st_app]
          have := hs.put (a := a) (d := o.dst) (x := undef) (v := .tup []) (dOk_st g5) RepV.undef_nil
          rwa [st_put_any] at this
        exact aOps_sound hK l (k + 1) hl' _ w m _ hs' (by cases o.dst <;> simpa [Act.put] using hd) (by simpa [LS.st, LS.app, skipE] using hev) g6

/-! ### code -/
def AWp (P : Program) (c : Code) (Q : Exit → LS → Prop) (s : LS) : Prop :=
  ∀ (w : World) (F : Avoid) (m : Nat → Reg) (a : Act), Sim w F m s.st a.tmps → a.defers = [] →
    c.wp P (fun ex a' w' => a'.defers = [] ∧ ∃ s' m', Sim w' F m' s'.st a'.tmps ∧ Ev w m s.st.H w' m' s'.st.H ∧ Q ex s') a w

def thenK (K : LS → Prop) (Q : Exit → LS → Prop) : Exit → LS → Prop
  | .normal, s => K s
  | e, s => Q e s
def blockQ (id : Nat) (Q : Exit → LS → Prop) : Exit → LS → Prop
  | .exit id', s => if id' = id then Q .normal s else Q (.exit id') s
  | e, s => Q e s

section
variable {P : Program} {Q : Exit → LS → Prop} {s : LS}

theorem aw_mono {c : Code} {Q' : Exit → LS → Prop} (h : AWp P c Q s) (hq : ∀ e s, Q e s → Q' e s) : AWp P c Q' s := fun w F m a hs hd =>
  wp_mono (h w F m a hs hd) fun e a' w' ⟨h1, s', m', h2, h3, h4⟩ => ⟨h1, s', m', h2, h3, hq _ _ h4⟩
theorem aw_skip (h : Q .normal s) : AWp P .skip Q s := fun w F m a hs hd => wp_skip ⟨hd, s, m, hs, Ev.refl _ _ _, h⟩
theorem aw_exit {id : Nat} (h : Q (.exit id) s) : AWp P (.exit id) Q s := fun w F m a hs hd => wp_exit ⟨hd, s, m, hs, Ev.refl _ _ _, h⟩
theorem aw_ret (h : Q .ret s) : AWp P .ret Q s := fun w F m a hs hd => wp_ret ⟨hd, s, m, hs, Ev.refl _ _ _, h⟩
theorem aw_seq {x y : Code} (h : ∀ K : LS → Prop, (∀ s, AWp P y Q s → K s) → AWp P x (thenK K Q) s) : AWp P (.seq x y) Q s := fun w F m a hs hd => by
  refine wp_seq (wp_mono (h (AWp P y Q) (fun _ h => h) w F m a hs hd) fun e a' w' ⟨h1, s', m', h2, h3, h4⟩ => ?_)
  cases e with
  | normal => exact wp_mono (h4 w' F m' a' h2 h1) fun e2 a2 w2 ⟨g1, s2, m2, g2, g3, g4⟩ => ⟨g1, s2, m2, g2, h3.trans g3, g4⟩
  | _ => exact ⟨h1, s', m', h2, h3, h4⟩
theorem aw_cond {c : Operand} {x y : Code} {b : Bool} (hc : s.ev c = .p (.v (.bool b))) (ht : b = true → AWp P x Q s) (hf : b = false → AWp P y Q s) : AWp P (.cond c x y) Q s := fun w F m a hs hd => by
  have h1 := hs.eval c
  rw [LS.ev_st, hc] at h1
  have h2 := h1.pv
  cases b with
  | true => exact wp_cond_true h2 (ht rfl w F m a hs hd)
  | false => exact wp_cond_false h2 (hf rfl w F m a hs hd)
theorem aw_block {id : Nat} {c : Code} (h : AWp P c (blockQ id Q) s) : AWp P (.block id c) Q s := fun w F m a hs hd => by
  refine wp_block (wp_mono (h w F m a hs hd) fun e a' w' ⟨h1, s', m', h2, h3, h4⟩ => ?_)
  cases e with
  | exit id' =>
    simp only [blockQ] at h4
    simp only [Exit.inBlock]
    by_cases hi : id' = id
    · rw [if_pos hi] at h4 ⊢; exact ⟨h1, s', m', h2, h3, h4⟩
    · rw [if_neg hi] at h4 ⊢; exact ⟨h1, s', m', h2, h3, h4⟩
  | _ => exact ⟨h1, s', m', h2, h3, h4⟩
theorem aw_region {id : Nat} {ops : Array Oper} (h : aOps P ops ops.toList s (fun s' => Q .normal s')) : AWp P (.region id ops false) Q s := fun w F m a hs hd => by
  refine wp_region ?_
  have := aOps_sound (P := P) (ops := ops) (Q := fun ex a' w' => a'.defers = [] ∧ ∃ s' m', Sim w' F m' s'.st a'.tmps ∧ Ev w m s.st.H w' m' s'.st.H ∧ Q ex s') (K := fun s' => Q .normal s') (w0 := w) (m0 := m) (H0 := s.st.H) (F := F)
    (fun s' w' m' a' h1 h2 h3 h4 => ⟨h2, s', m', h1, h3, h4⟩) ops.toList 0 (by simp) s w m a hs hd (Ev.refl _ _ _) h
  simpa using this

/-! ### what may be said less of a state -/
/-- Wherever the first state is so, the second one is. -/
def LS.imp (s s' : LS) : Prop := ∀ (w : World) (F : Avoid) (m : Nat → Reg) (tmps : Array Value), Sim w F m s.st tmps → ∃ m', Sim w F m' s'.st tmps ∧ Ev w m s.st.H w m' s'.st.H
theorem LS.imp_refl (s : LS) : s.imp s := fun w F m tmps h => ⟨m, h, Ev.refl _ _ _⟩
theorem LS.imp_trans {a b c : LS} (h : a.imp b) (h' : b.imp c) : a.imp c := fun w F m tmps hs => by
  obtain ⟨m1, h1, h2⟩ := h w F m tmps hs
  obtain ⟨m2, h3, h4⟩ := h' w F m1 tmps h1
  exact ⟨m2, h3, h2.trans h4⟩
theorem aw_imp {c : Code} {s' : LS} (hi : s.imp s') (h : AWp P c Q s') : AWp P c Q s := fun w F m a hs hd => by
  obtain ⟨m', h1, h2⟩ := hi w F m a.tmps hs
  exact wp_mono (h w F m' a h1 hd) fun e a' w' ⟨g1, s2, m2, g2, g3, g4⟩ => ⟨g1, s2, m2, g2, h2.trans g3, g4⟩

theorem aw_loop {c : Code} {α : Type} (st : α → LS) (μ : α → Nat) (x0 : α) (h0 : s.imp (st x0)) (hr : ∀ x, AWp P c (fun e s' => match e with | .normal => ∃ y, s'.imp (st y) ∧ μ y < μ x | e => Q e s') (st x)) : AWp P (.loop c) Q s := fun w F m a hs hd => by
  obtain ⟨m0, h1, h2⟩ := h0 w F m a.tmps hs
  -- the measure: the least number under which the state may be told
  have key : ∀ n (x : α), μ x = n → ∀ (w1 : World) (m1 : Nat → Reg) (a1 : Act), Sim w1 F m1 (st x).st a1.tmps → a1.defers = [] → Ev w m s.st.H w1 m1 (st x).st.H →
      ∀ (b : Frame) (k : List Item) (cs : List Frame), ∃ e a' w', (a'.defers = [] ∧ ∃ s' m', Sim w' F m' s'.st a'.tmps ∧ Ev w m s.st.H w' m' s'.st.H ∧ Q e s') ∧ Arrives P (lone (b.at a1 (.code c :: .inLoop c :: k)) cs w1) b k cs e a' w' := by
    intro n
    induction n using Nat.strongRecOn with
    | _ n ih =>
      intro x hn w1 m1 a1 hs1 hd1 hev b k cs
      obtain ⟨e, a2, w2, ⟨hd2, s2, m2, hs2, hev2, hq⟩, harr⟩ := hr x w1 F m1 a1 hs1 hd1 b (.inLoop c :: k) cs
      cases e with
      | normal =>
        obtain ⟨y, hy, hlt⟩ := hq
        obtain ⟨m3, h3, h4⟩ := hy w2 F m2 a2.tmps hs2
        obtain ⟨e3, a3, w3, hq3, harr3⟩ := ih (μ y) (hn ▸ hlt) y rfl w2 m3 a2 h3 hd2 ((hev.trans hev2).trans h4) b k cs
        exact ⟨e3, a3, w3, hq3, .of_steps (Steps.trans harr (.one step_inLoop)) harr3⟩
      | _ => exact ⟨_, a2, w2, ⟨hd2, s2, m2, hs2, hev.trans hev2, hq⟩, .pass (x := .inLoop c) rfl (fun _ _ => .inl (by simp)) harr⟩
  intro b k cs
  obtain ⟨e, a', w', hq, harr⟩ := key _ x0 rfl w m0 a h1 hd h2 b k cs
  exact ⟨e, a', w', hq, .of_steps (.one step_loop) harr⟩

/-- Slots forgotten, things let go: a state told by less. -/
theorem imp_sub {s' : LS} (hn : s'.n = s.n) (hT : ∀ p ∈ s'.T, AV.le (lkT s.T p.1) p.2) (hH : ∀ p ∈ s'.H, lkH s.H p.1 = p.2) : s.imp s' := fun w F m tmps hs => by
  have hd : ∀ id, s'.st.H id = s.st.H id ∨ s'.st.H id = .dead := fun id => by
    show lkH s'.H id = lkH s.H id ∨ lkH s'.H id = .dead
    have : ∀ l : List (Nat × AObj), (∀ p ∈ l, lkH s.H p.1 = p.2) → lkH l id = lkH s.H id ∨ lkH l id = .dead := by
      intro l
      induction l with
      | nil => intro _; exact .inr rfl
      | cons p l ih =>
        intro h
        simp only [lkH]
        split
        · rename_i hi; subst hi; exact .inl (h p (by simp)).symm
        · exact ih fun q hq => h q (by simp [hq])
    exact this s'.H hH
  have hH' := hs.heap.drop hd
  have hHOk : ∀ id, HOk (s.st.H id) (m id) (s'.st.H id) (m id) := fun id => by
    rcases hd id with e | e <;> rw [e]
    · exact HOk.refl _ _
    · exact HOk.dead _ _ _
  have how : ∀ b o, Own m s'.st.H b o → Own m s.st.H b o := fun b o ⟨id, h⟩ => ⟨id, by
    rcases hd id with e | e
    · exact ⟨by rw [← e]; exact h.1, h.2⟩
    · exact absurd e h.1⟩
  have hev : Ev w m s.st.H w m s'.st.H := ⟨Fr.refl _ _, fun b o _ h => how b o h, fun id _ => hHOk id⟩
  refine ⟨m, ⟨by rw [hs.size]; exact hn.symm, fun i => ?_, hH'⟩, hev⟩
  have h1 := (hs.tmp i).move (hev.keeps F) fun id _ => hHOk id
  show RepV w _ m _ _ (lkT s'.T i)
  have : ∀ l : List (Nat × AV), (∀ p ∈ l, AV.le (lkT s.T p.1) p.2) → lkT l i = .any 1 ∨ AV.le (lkT s.T i) (lkT l i) := by
    intro l
    induction l with
    | nil => intro _; exact .inl rfl
    | cons p l ih =>
      intro h
      simp only [lkT]
      split
      · rename_i hi; subst hi; exact .inr (h p (by simp))
      · exact ih fun q hq => h q (by simp [hq])
  rcases this s'.T hT with h2 | h2
  · rw [h2]; exact .any
  · exact h1.le h2
end
end Go.Av
end

section
/- Abstract values: from a walk over a body to a contract; a contract under other numbers. -/
namespace Go.Av
open Go
set_option linter.unusedVariables false
set_option linter.unusedSimpArgs false
set_option linter.unusedSectionVars false
variable [Globs]

def argT : Nat → List AV → List (Nat × AV)
  | _, [] => []
  | k, a :: as => (k, a) :: argT (k + 1) as
theorem lkT_argT : ∀ (as : List AV) (k i : Nat), lkT (argT k as) i = if k ≤ i then as.getD (i - k) (.any 1) else .any 1
  | [], k, i => by simp [argT, lkT]
  | a :: as, k, i => by
    simp only [argT, lkT]
    by_cases h : i = k
    · subst h; simp
    · rw [if_neg h, lkT_argT as (k + 1) i]
      by_cases hk : k ≤ i
      · rw [if_pos (by omega), if_pos hk, show i - k = (i - (k + 1)) + 1 by omega]
        simp
      · rw [if_neg (by omega), if_neg hk]

/-- What a function's result variable holds. -/
def resVal (P : Program) (s : LS) (v : ResultVar) (x : AV) : Prop :=
  match v with
  | .tmp t => x = lkT s.T t
  | .cell a t => match lkT s.T a with
    | .ptr id path => ∃ ty c, lkH s.H id = .row ty c ∧ c.get? path = some x ∧ x.cellish = true ∧ ldOf P t = some (x.isAgg, x.size)
    | _ => False
def resVals (P : Program) (s : LS) : List ResultVar → List AV → Prop
  | [], xs => xs = []
  | v :: vs, xs => ∃ y ys, xs = y :: ys ∧ resVal P s v y ∧ resVals P s vs ys
def fnQ (P : Program) (rs : List ResultVar) (r : AV) (hr : List (Nat × AObj)) : Exit → LS → Prop
  | .normal, s => fin s
  | .ret, s => fin s
  | _, _ => False
where fin (s : LS) : Prop := (match rs with
    | [v] => ∃ x, resVal P s v x ∧ AV.le x r
    | vs => ∃ xs ys, resVals P s vs xs ∧ r = .tup ys ∧ leAll xs ys) ∧ ∀ p ∈ hr, lkH s.H p.1 = p.2

def resF (tmps : Array Value) (v : ResultVar) : Sem Value :=
  match v with
  | .tmp t => pure (tmps.getD t undef)
  | .cell ad t => do loadVar t (← asAddr (tmps.getD ad undef))
theorem results_eq (fn : Func) (tmps : Array Value) : results fn tmps = (do
    let vs ← fn.results.mapM (resF tmps)
    pure (if h : vs.size = 1 then vs[0] else .tuple vs)) := rfl

theorem resVal_run {P : Program} {s : LS} {v : ResultVar} {x : AV} {w : World} {F : Avoid} {m : Nat → Reg} {a : Act} (hs : Sim w F m s.st a.tmps) (h : resVal P s v x) :
    ∃ y, (resF a.tmps v).run P w = .ok y w ∧ RepV w (St.av F m s.st.H) m s.st.H y x := by
  cases v with
  | tmp t =>
    simp only [resVal] at h
    subst h
    exact ⟨_, rfl, hs.tmp t⟩
  | cell ad t =>
    simp only [resVal] at h
    split at h
    · rename_i id path hx
      obtain ⟨ty, c, h1, h2, h3, h4⟩ := h
      have hv := hs.tmp ad
      have hx' : s.st.T ad = .ptr id path := hx
      rw [hx'] at hv
      have hH : s.st.H id = .row ty c := h1
      have hv := hv.ptr_val hH
      obtain ⟨cs, vs, g1, g2, g3, g4, g5⟩ := hs.heap.row hH
      obtain ⟨a1, us, b1, rfl, hl1, hr1, _⟩ := g5.at_ path h2
      have hlen := hr1.len
      have hrun := run_loadVar_cells (P := P) (w := w) h4 hlen (b := (m id).b) (o := c.shape.off path) (by rw [← hl1]; exact row_cells_at g1 g4) (fun e => size_one_of h3 e)
      refine ⟨_, ?_, RepV.of_cells hr1 x.isAgg rfl fun e => by rw [hlen]; exact size_one_of h3 e⟩
      simp only [resF, hv, asAddr, Sem.run_bind, Sem.run_pure, Result.andThen_ok, hrun]
    · exact h.elim

theorem resVals_len {P : Program} {s : LS} : ∀ {vs : List ResultVar} {xs : List AV}, resVals P s vs xs → vs.length = xs.length
  | [], xs, h => by simp only [resVals] at h; subst h; rfl
  | v :: vs, xs, h => by
    simp only [resVals] at h
    obtain ⟨y, ys, rfl, _, h2⟩ := h
    simp [resVals_len h2]

theorem resVals_run {P : Program} {s : LS} {w : World} {F : Avoid} {m : Nat → Reg} {a : Act} (hs : Sim w F m s.st a.tmps) : ∀ (vs : List ResultVar) (xs : List AV), resVals P s vs xs →
    ∃ ys : List Value, (vs.mapM (resF a.tmps)).run P w = .ok ys w ∧ ys.length = xs.length ∧
      ∀ (i : Nat) y x, ys[i]? = some y → xs[i]? = some x → RepV w (St.av F m s.st.H) m s.st.H y x
  | [], xs, h => by simp only [resVals] at h; subst h; exact ⟨[], rfl, rfl, fun i y x h => by simp at h⟩
  | v :: vs, xs, h => by
    simp only [resVals] at h
    obtain ⟨y, ys, rfl, h1, h2⟩ := h
    obtain ⟨z, g1, g2⟩ := resVal_run hs h1
    obtain ⟨zs, g3, g4, g5⟩ := resVals_run hs vs ys h2
    refine ⟨z :: zs, ?_, by simp [g4], fun i u x hu hx => ?_⟩
    · rw [List.mapM_cons]
      simp only [Sem.run_bind, g1, Result.andThen_ok, g3, Sem.run_pure]
    · cases i with
      | zero => simp at hu hx; subst hu; subst hx; exact g2
      | succ i => exact g5 i u x (by simpa using hu) (by simpa using hx)

theorem results_run {P : Program} {fn : Func} {s : LS} {r : AV} {w : World} {F : Avoid} {m : Nat → Reg} {a : Act} (hs : Sim w F m s.st a.tmps)
    (h : match fn.results.toList with
      | [v] => ∃ x, resVal P s v x ∧ AV.le x r
      | vs => ∃ xs ys, resVals P s vs xs ∧ r = .tup ys ∧ leAll xs ys) : ∃ y, (results fn a.tmps).run P w = .ok y w ∧ RepV w (St.av F m s.st.H) m s.st.H y r := by
  rw [results_eq]
  have hm : ∀ ys : List Value, (fn.results.toList.mapM (resF a.tmps)).run P w = .ok ys w →
      (fn.results.mapM (resF a.tmps)).run P w = .ok ys.toArray w := fun ys hy => by
    rw [Array.mapM_eq_mapM_toList, Sem.run_map, hy]
    rfl
  split at h
  · rename_i v hv
    obtain ⟨x, h1, h2⟩ := h
    obtain ⟨y, g1, g2⟩ := resVal_run hs h1
    have : (fn.results.toList.mapM (resF a.tmps)).run P w = .ok [y] w := by
      rw [hv, List.mapM_cons]
      simp only [Sem.run_bind, g1, Result.andThen_ok, List.mapM_nil, Sem.run_pure]
    refine ⟨y, ?_, g2.le h2⟩
    rw [Sem.run_bind, hm _ this]
    simp
  · rename_i hne
    obtain ⟨xs, ys, h1, rfl, h2⟩ := h
    obtain ⟨zs, g1, g2, g3⟩ := resVals_run hs _ _ h1
    have hlen : zs.length ≠ 1 := fun h1' => by
      have := resVals_len h1
      match hv : fn.results.toList with
      | [v] => exact hne v hv
      | [] => rw [hv] at this; simp at this; omega
      | _ :: _ :: _ => rw [hv] at this; simp at this; omega
    obtain ⟨k1, k2⟩ := leAll_get h2
    refine ⟨.tuple zs.toArray, ?_, .tup (by omega) fun i y x hy hx => ?_⟩
    · rw [Sem.run_bind, hm _ g1]
      simp [hlen]
    · have hi := (List.getElem?_eq_some_iff.1 hx).1
      obtain ⟨x0, hx0⟩ : ∃ x0, xs[i]? = some x0 := ⟨_, List.getElem?_eq_getElem (by omega)⟩
      exact (g3 i y x0 hy hx0).le (k2 i _ _ hx0 hx)

theorem hOf_lk : ∀ {l : List (Nat × AObj)}, (idsOf l).Nodup → hOf l = lkH l := by
  intro l hn
  funext id
  by_cases h : id ∈ idsOf l
  · obtain ⟨o, ho⟩ := ids_mem h
    rw [hOf_in hn ho]
    induction l with
    | nil => cases ho
    | cons p l ih =>
      simp only [idsOf, List.map_cons, List.nodup_cons] at hn
      simp only [lkH]
      rcases List.mem_cons.1 ho with e | e
      · rw [← e]; simp
      · have hm : id ∈ idsOf l := List.mem_map.2 ⟨_, e, rfl⟩
        rw [if_neg (fun e2 => hn.1 (by rw [← e2]; exact hm))]
        exact ih (by exact hn.2) hm e
  · rw [hOf_notin h]
    rcases lkH_mem (l := l) (i := id) with h1 | ⟨p, h1, h2⟩
    · exact h1.symm
    · clear h1 h2
      induction l with
      | nil => rfl
      | cons p l ih =>
        simp only [idsOf, List.map_cons, List.mem_cons, not_or] at h
        simp only [lkH]
        rw [if_neg h.1]
        exact ih (by simp only [idsOf, List.map_cons, List.nodup_cons] at hn; exact hn.2) h.2

/-- A walk over its body proves a contract. -/
theorem acalls_of {P : Program} {f : FuncId} {fn : Func} {c : Code} {n : Nat} {args : List AV} {hc : List (Nat × AObj)} {r : AV} {hr : List (Nat × AObj)} (hf : P.funcs[f]? = some fn) (hb : fn.body = some c) (hnm : (fn.name != "runtime.NumGoroutine") = true)
    (hn : fn.ntmps = n) (hargs : args.length ≤ n) (hids : ∀ p ∈ hc, 1000 ≤ p.1) (hnc : (idsOf hc).Nodup) (hnr : (idsOf hr).Nodup) (h : AWp P c (fnQ P fn.results.toList r hr) ⟨n, argT 0 args, hc⟩) : ACalls P f args hc r hr := by
  refine ⟨by simp [callable, hf, hb]; simpa using hnm, fun w F m vals hlen hvals hS => ?_⟩
  rw [hOf_lk hnc] at hvals hS ⊢
  rw [hOf_lk hnr]
  have hinit : Sim w F m (LS.st ⟨n, argT 0 args, hc⟩) (vals.toArray ++ Array.replicate (fn.ntmps - vals.toArray.size) undef) := by
    refine ⟨?_, fun i => ?_, hS⟩
    · simp [LS.st, hn, hlen]; omega
    · show RepV w _ m _ _ (lkT (argT 0 args) i)
      rw [lkT_argT]
      simp only [Nat.zero_le, if_true, Nat.sub_zero]
      by_cases hi : i < args.length
      · have e1 : args.getD i (.any 1) = args[i] := by simp [List.getD_eq_getElem?_getD, List.getElem?_eq_getElem hi]
        have e2 : (vals.toArray ++ Array.replicate (fn.ntmps - vals.toArray.size) undef).getD i undef = vals[i] := by
          rw [Array.getD_eq_getD_getElem?, Array.getElem?_append_left (by simp; omega)]
          simp [List.getElem?_eq_getElem (show i < vals.length by omega)]
        rw [e1, e2]
        exact hvals i _ _ (List.getElem?_eq_getElem (by omega)) (List.getElem?_eq_getElem hi)
      · have e1 : args.getD i (.any 1) = .any 1 := by simp [List.getD_eq_getElem?_getD, List.getElem?_eq_none (by omega : args.length ≤ i)]
        rw [e1]
        exact .any
  refine calls_of_wp hf hb (wp_mono (h w F m { tmps := _, defers := [] } hinit rfl) fun ex a' w' ⟨hd, s', m', hs', hev, hq⟩ => ?_)
  have fin : fnQ.fin P fn.results.toList r hr s' → a'.defers = [] ∧ ∃ v, (results fn a'.tmps).run P w' = .ok v w' ∧
      ∃ x m', Ending.returned v = .returned x ∧ RepV w' (St.av F m' (lkH hr)) m' (lkH hr) x r ∧ SimH w' F m' (lkH hr) ∧ Fr (Own m (lkH hc)) w w' ∧ (∀ b o, b < w.heap.size → Own m' (lkH hr) b o → Own m (lkH hc) b o) ∧
        ∀ id, lkH hc id ≠ .dead → HOk (lkH hc id) (m id) (lkH hr id) (m' id) := fun ⟨h1, h2⟩ => by
    obtain ⟨y, g1, g2⟩ := results_run hs' h1
    have hdrop : ∀ id, lkH hr id = s'.st.H id ∨ lkH hr id = .dead := fun id => by
      have : ∀ l : List (Nat × AObj), (∀ p ∈ l, lkH s'.H p.1 = p.2) → lkH l id = lkH s'.H id ∨ lkH l id = .dead := by
        intro l
        induction l with
        | nil => intro _; exact .inr rfl
        | cons p l ih =>
          intro h
          simp only [lkH]
          split
          · rename_i hi; subst hi; exact .inl (h p (by simp)).symm
          · exact ih fun q hq => h q (by simp [hq])
      exact this hr h2
    have how : ∀ b o, Own m' (lkH hr) b o → Own m' s'.st.H b o := fun b o ⟨id, h⟩ => ⟨id, by
      rcases hdrop id with e | e
      · exact ⟨by rw [← e]; exact h.1, h.2⟩
      · exact absurd e h.1⟩
    have hHOk : ∀ id, HOk (s'.st.H id) (m' id) (lkH hr id) (m' id) := fun id => by
      rcases hdrop id with e | e <;> rw [e]
      · exact HOk.refl _ _
      · exact HOk.dead _ _ _
    refine ⟨hd, y, g1, y, m', rfl, g2.move (Keeps.less fun b o ha => ?_) fun id _ => hHOk id, hs'.heap.drop hdrop, hev.fr, fun b o hb ho => hev.le b o hb (how b o ho), fun id hid => ?_⟩
    · rcases ha with ha | ha
      · exact .inl ha
      · exact .inr (how b o ha)
    · have : 1000 ≤ id := by
        rcases lkH_mem (l := hc) (i := id) with e | ⟨p, p1, p2⟩
        · exact absurd e hid
        · -- the one that is found
          have : ∀ l : List (Nat × AObj), (∀ p ∈ l, 1000 ≤ p.1) → lkH l id ≠ .dead → 1000 ≤ id := by
            intro l
            induction l with
            | nil => intro _ h; exact absurd rfl h
            | cons q l ih =>
              intro hq h
              simp only [lkH] at h
              split at h
              · rename_i hi; rw [hi]; exact hq q (by simp)
              · exact ih (fun z hz => hq z (by simp [hz])) h
          exact this hc hids hid
      exact (hev.hs id this).trans (hHOk id)
  cases ex with
  | normal => exact fin hq
  | ret => exact fin hq
  | _ => exact hq.elim
end Go.Av
end

section
/- Abstract values: regions whose order Go leaves open: one walk in the order of the text serves every order, where what is not ordered does not meet. -/
namespace Go.Av
open Go
set_option linter.unusedVariables false
set_option linter.unusedSimpArgs false
set_option linter.unusedSectionVars false
variable [Globs]

theorem map_cong {α β : Type} {f g : α → β} {l : List α} (h : ∀ x ∈ l, f x = g x) : l.map f = l.map g := List.map_congr_left h

theorem aEff_congr {P : Program} {o : Oper} {ev ev' : Operand → AV} {e : Eff} (h : ∀ x ∈ o.op.operands, ev x = ev' x) (ha : aEff P o ev e) : aEff P o ev' e := by
  cases ho : o.op with
  | move x => rw [ho] at h; simp only [aEff, ho] at ha ⊢; rwa [← h x (by simp [Op.operands])]
  | assign x => rw [ho] at h; simp only [aEff, ho] at ha ⊢; rwa [← h x (by simp [Op.operands])]
  | pick c a b => rw [ho] at h; simp only [aEff, ho] at ha ⊢; rwa [← h c (by simp [Op.operands]), ← h a (by simp [Op.operands]), ← h b (by simp [Op.operands])]
  | alloc t => simp only [aEff, ho] at ha ⊢; exact ha
  | box t x => rw [ho] at h; simp only [aEff, ho] at ha ⊢; rwa [← h x (by simp [Op.operands])]
  | load t x => rw [ho] at h; simp only [aEff, ho] at ha ⊢; rwa [← h x (by simp [Op.operands])]
  | store t x y => rw [ho] at h; simp only [aEff, ho] at ha ⊢; rwa [← h x (by simp [Op.operands]), ← h y (by simp [Op.operands])]
  | nilCheck x => rw [ho] at h; simp only [aEff, ho] at ha ⊢; rwa [← h x (by simp [Op.operands])]
  | binOp op t x y ty => rw [ho] at h; simp only [aEff, ho] at ha ⊢; rwa [← h x (by simp [Op.operands]), ← h y (by simp [Op.operands])]
  | unOp op t x => rw [ho] at h; simp only [aEff, ho] at ha ⊢; rwa [← h x (by simp [Op.operands])]
  | convert s d x => rw [ho] at h; simp only [aEff, ho] at ha ⊢; rwa [← h x (by simp [Op.operands])]
  | makeInterface t x => rw [ho] at h; simp only [aEff, ho] at ha ⊢; rwa [← h x (by simp [Op.operands])]
  | makeFunc f first caps =>
    rw [ho] at h
    simp only [aEff, ho] at ha ⊢
    have hc : ∀ c ∈ caps.toList, ev c = ev' c := fun c hc => h c (by simp [Op.operands]; exact .inr (by simpa using hc))
    obtain ⟨h1, h2, h3⟩ := ha
    refine ⟨h1, fun c hcm => ?_, ?_⟩
    · rw [← hc c hcm]; exact h2 c hcm
    · rw [h3, map_cong hc]
  | fieldAddr t x f => rw [ho] at h; simp only [aEff, ho] at ha ⊢; rwa [← h x (by simp [Op.operands])]
  | field t x f => rw [ho] at h; simp only [aEff, ho] at ha ⊢; rwa [← h x (by simp [Op.operands])]
  | indexAddr t x i => rw [ho] at h; simp only [aEff, ho] at ha ⊢; rwa [← h x (by simp [Op.operands]), ← h i (by simp [Op.operands])]
  | index t x i => rw [ho] at h; simp only [aEff, ho] at ha ⊢; rwa [← h x (by simp [Op.operands]), ← h i (by simp [Op.operands])]
  | extract x i => rw [ho] at h; simp only [aEff, ho] at ha ⊢; rwa [← h x (by simp [Op.operands])]
  | slice t x lo hi mx =>
    rw [ho] at h
    simp only [aEff, ho] at ha ⊢
    have h1 : lo.map ev = lo.map ev' := by cases lo with | none => rfl | some y => simp [h y (by simp [Op.operands])]
    have h2 : hi.map ev = hi.map ev' := by cases hi with | none => rfl | some y => simp [h y (by simp [Op.operands])]
    have h3 : mx.map ev = mx.map ev' := by cases mx with | none => rfl | some y => simp [h y (by simp [Op.operands])]
    rwa [← h x (by simp [Op.operands]), ← h1, ← h2, ← h3]
  | build t parts =>
    rw [ho] at h
    simp only [aEff, ho] at ha ⊢
    have : (parts.toList.map fun p => (p.1, ev p.2)) = parts.toList.map fun p => (p.1, ev' p.2) := map_cong fun p hp => by
      rw [h p.2 (by simp only [Op.operands, List.mem_toArray, List.mem_map]; exact ⟨p, hp, rfl⟩)]
    rwa [← this]
  | buildSlice t n parts =>
    rw [ho] at h
    simp only [aEff, ho] at ha ⊢
    have : (parts.toList.map fun p => (p.1, (ev p.2).pview)) = parts.toList.map fun p => (p.1, (ev' p.2).pview) := map_cong fun p hp => by
      rw [h p.2 (by simp only [Op.operands, List.mem_toArray, List.mem_map]; exact ⟨p, hp, rfl⟩)]
    rwa [← this]
  | call c =>
    rw [ho] at h
    have hargs : c.args.toList.map ev = c.args.toList.map ev' := map_cong fun x hx => h x (by simp [Op.operands, Call.operands]; exact .inr (by simpa using hx))
    simp only [aEff, ho] at ha ⊢
    cases hc : c.callee with
    | builtin b => cases b <;> simp only [hc] at ha ⊢ <;> first | exact ha.elim | (rw [← hargs]; exact ha)
    | invoke r n => simp only [hc] at ha
    | value f =>
      simp only [hc] at ha ⊢
      rw [← h f (by simp [Op.operands, Call.operands, hc]), ← hargs]
      exact ha
  | _ => simp [aEff, ho] at ha

theorem xEff_congr {P : Program} {o : Oper} {ev ev' : Operand → AV} {e : Eff} (h : ∀ x ∈ o.op.operands, ev x = ev' x) (ha : xEff P o ev e) : xEff P o ev' e := by
  rcases ha with ha | ha
  · exact .inl (aEff_congr h ha)
  · exact .inr fun o' s h1 h2 h3 => ha o' s h1 h2 fun x hx => (h3 x hx).trans (h x hx).symm

/-! ### effects under other effects -/
def Eff.refs (e : Eff) : List Nat := e.v.refs ++ e.mod.flatMap fun p => objRefs p.2
def disjL (a b : List Nat) : Bool := a.all fun x => !b.contains x
theorem disjL_spec {a b : List Nat} (h : disjL a b = true) {x : Nat} (ha : x ∈ a) : x ∉ b := by
  simp only [disjL, List.all_eq_true] at h
  simpa using h x ha
def tIds (e : Eff) : List Nat := idsOf e.touch
def mIds (e : Eff) : List Nat := idsOf e.mod

section
variable {P : Program} {ops : Array Oper}

def YS (P : Program) (ops : Array Oper) (o : Oper) (s : St) (e : Eff) : Prop :=
  match o.guard with
  | none => run P o s e
  | some (j, want) => ∃ d ob, guardD ops j = some d ∧ gval (s.T d) = some ob ∧ (ob = some want → run P o s e) ∧ (ob ≠ some want → e = skipE ∧ dstOk s o.dst)
where run (P : Program) (o : Oper) (s : St) (e : Eff) : Prop := xEff P o s.ev e ∧ (∀ p ∈ e.touch, s.H p.1 = p.2) ∧ dstOk s o.dst

theorem looks_operand {o : Oper} {x : Operand} {d : Nat} (hx : x ∈ o.op.operands) (hd : d ∉ o.looksAt ops) : x ≠ .tmp d := fun h => hd (by
  subst h
  exact List.mem_append_left _ (List.mem_filterMap.2 ⟨.tmp d, by simpa using hx, rfl⟩))

theorem app_T {s : St} {o : Oper} {e : Eff} {t : Nat} (h : ∀ d, o.dst = some d → t ≠ d) : (s.app o e).T t = s.T t := by
  unfold St.app
  cases ho : o.dst with
  | none => rfl
  | some d => simp only [St.put]; exact upd_ne _ _ (h d ho)
theorem app_ev {s : St} {o o' : Oper} {e' : Eff} (h : ∀ d, o'.dst = some d → d ∉ o.looksAt ops) : ∀ x ∈ o.op.operands, (s.app o' e').ev x = s.ev x := fun x hx => by
  cases x with
  | tmp t => exact app_T fun d hd ht => looks_operand hx (h d hd) (by rw [ht])
  | const v => rfl
  | global g => rfl
  | func f => rfl
theorem app_H {s : St} {o : Oper} {e : Eff} {id : Nat} (h : id ∉ mIds e) : (s.app o e).H id = s.H id := mods_notin h
theorem app_n {s : St} {o : Oper} {e : Eff} : (s.app o e).n = s.n := by unfold St.app; cases o.dst <;> rfl
theorem app_dst {s : St} {o : Oper} {e : Eff} {d : Option Tmp} : dstOk (s.app o e) d ↔ dstOk s d := by
  unfold dstOk
  cases d with
  | none => exact Iff.rfl
  | some d => simp only [app_n]

theorem guard_looks {o : Oper} {j : Nat} {want : Bool} {d : Nat} (hg : o.guard = some (j, want)) (hd : guardD ops j = some d) : d ∈ o.looksAt ops := by
  unfold Oper.looksAt
  rw [hg]
  refine List.mem_append_right _ ?_
  have : (ops[j]?).bind (·.dst) = some d := hd
  simp [this]

theorem YS.congr {o o' : Oper} {s : St} {e e' : Eff} (h : ∀ d, o'.dst = some d → d ∉ o.looksAt ops) (hm : disjL (tIds e) (mIds e') = true) : YS P ops o (s.app o' e') e ↔ YS P ops o s e := by
  have hrun : YS.run P o (s.app o' e') e ↔ YS.run P o s e := by
    have hev := app_ev (s := s) (e' := e') h
    have ht : ∀ p ∈ e.touch, (s.app o' e').H p.1 = s.H p.1 := fun p hp => app_H (disjL_spec hm (List.mem_map.2 ⟨p, hp, rfl⟩))
    constructor
    · rintro ⟨h1, h2, h3⟩
      exact ⟨xEff_congr hev h1, fun p hp => by rw [← ht p hp]; exact h2 p hp, app_dst.1 h3⟩
    · rintro ⟨h1, h2, h3⟩
      exact ⟨xEff_congr (fun x hx => (hev x hx).symm) h1, fun p hp => by rw [ht p hp]; exact h2 p hp, app_dst.2 h3⟩
  unfold YS
  cases hg : o.guard with
  | none => exact hrun
  | some jw =>
    obtain ⟨j, want⟩ := jw
    simp only
    have hT : ∀ d, guardD ops j = some d → (s.app o' e').T d = s.T d := fun d hd => app_T fun d' hd' hdd => h d' hd' (hdd ▸ guard_looks hg hd)
    constructor
    · rintro ⟨d, b, h1, h2, h3, h4⟩
      exact ⟨d, b, h1, by rw [← hT d h1]; exact h2, fun hb => hrun.1 (h3 hb), fun hb => ⟨(h4 hb).1, app_dst.1 (h4 hb).2⟩⟩
    · rintro ⟨d, b, h1, h2, h3, h4⟩
      exact ⟨d, b, h1, by rw [hT d h1]; exact h2, fun hb => hrun.2 (h3 hb), fun hb => ⟨(h4 hb).1, app_dst.2 (h4 hb).2⟩⟩

theorem mods_comm {l l' : List (Nat × AObj)} {H : Nat → AObj} (h : disjL (idsOf l) (idsOf l') = true) : mods (mods H l) l' = mods (mods H l') l := by
  have one : ∀ (l' : List (Nat × AObj)) (H : Nat → AObj) (i : Nat) (x : AObj), i ∉ idsOf l' → mods (upd H i x) l' = upd (mods H l') i x := by
    intro l'
    induction l' with
    | nil => intro H i x _; rfl
    | cons p l' ih =>
      intro H i x hi
      simp only [idsOf, List.map_cons, List.mem_cons, not_or] at hi
      show mods (upd (upd H i x) p.1 p.2) l' = upd (mods (upd H p.1 p.2) l') i x
      rw [upd_comm _ _ _ hi.1, ih _ _ _ (by simpa [idsOf] using hi.2)]
  induction l generalizing H with
  | nil => rfl
  | cons p l ih =>
    simp only [idsOf, disjL, List.map_cons, List.all_cons, Bool.and_eq_true] at h
    show mods (mods (upd H p.1 p.2) l) l' = mods (upd (mods H l') p.1 p.2) l
    rw [ih (by simpa [disjL, idsOf] using h.2), one l' H p.1 p.2 (by simpa [idsOf] using h.1)]

theorem app_comm {s : St} {o o' : Oper} {e e' : Eff} (hd : ∀ d, o.dst = some d → o'.dst ≠ some d) (hm : disjL (mIds e) (mIds e') = true) : (s.app o e).app o' e' = (s.app o' e').app o e := by
  have h2 := mods_comm (H := s.H) hm
  have hT : ((s.app o e).app o' e').T = ((s.app o' e').app o e).T := by
    unfold St.app
    cases ho : o.dst with
    | none => cases ho' : o'.dst <;> rfl
    | some d =>
      cases ho' : o'.dst with
      | none => rfl
      | some d' =>
        simp only [St.put]
        exact upd_comm _ _ _ fun e => hd d ho (by rw [ho', e])
  have hH : ((s.app o e).app o' e').H = ((s.app o' e').app o e).H := h2
  have hn : ((s.app o e).app o' e').n = ((s.app o' e').app o e).n := by simp only [app_n]
  cases h3 : (s.app o e).app o' e'
  cases h4 : (s.app o' e').app o e
  rw [h3, h4] at hT hH hn
  simp only at hT hH hn
  rw [hT, hH, hn]

/-! ### every order -/
inductive Dep (ops : Array Oper) : Nat → Nat → Prop
  | one {j : Nat} {o : Oper} {e : Edge} (ho : ops[j]? = some o) (he : e ∈ o.after) (hb : Region.binds .any e = true) : Dep ops j e.on
  | more {j i : Nat} {o : Oper} {e : Edge} (ho : ops[j]? = some o) (he : e ∈ o.after) (hb : Region.binds .any e = true) (h : Dep ops e.on i) : Dep ops j i

def Closed (ops : Array Oper) (listed : Array Bool) : Prop := ∀ j, listed.getD j false = true → ∀ o, ops[j]? = some o → ∀ e ∈ o.after, Region.binds .any e = true → listed.getD e.on false = true

theorem dep_listed {listed : Array Bool} (hc : Closed ops listed) {j i : Nat} (hd : Dep ops j i) : (∀ o, ops[j]? = some o → ∀ e ∈ o.after, Region.binds .any e = true → listed.getD e.on false = true) → listed.getD i false = true := by
  induction hd with
  | one ho he hb => intro h; exact h _ ho _ he hb
  | more ho he hb _ ih => intro h; exact ih fun o' ho' e' he' hb' => hc _ (h _ ho _ he hb) o' ho' e' he' hb'

theorem ready_dep {listed : Array Bool} (hc : Closed ops listed) {j i : Nat} (hj : j ∈ Region.ready .any ops listed) (hi : listed.getD i true = false) : ¬ Dep ops j i := fun hd => by
  obtain ⟨_, o, ho, hall⟩ := mem_ready.1 hj
  have := dep_listed hc hd fun o' ho' e he hb => by rw [ho] at ho'; injection ho' with ho'; subst ho'; exact hall e he hb
  rcases Nat.lt_or_ge i listed.size with h | h
  · simp [h] at hi this
    rw [hi] at this
    cases this
  · simp [Array.getElem?_eq_none h] at hi

theorem closed_set {listed : Array Bool} (hc : Closed ops listed) {j : Nat} (hj : j ∈ Region.ready .any ops listed) : Closed ops (listed.setIfInBounds j true) := fun k hk o ho e he hb => by
  obtain ⟨_, oj, hoj, hall⟩ := mem_ready.1 hj
  by_cases hkj : k = j
  · subst hkj
    rw [hoj] at ho
    injection ho with ho
    subst ho
    exact getD_set_true (hall e he hb)
  · have : listed.getD k false = true := by rw [← getD_set_ne false (Ne.symm hkj)]; exact hk
    exact getD_set_true (hc k this o ho e he hb)

def xE (P : Program) (ops : Array Oper) (E : Nat → Eff) (i : Nat) (K : St → Prop) (s : St) : Prop :=
  match ops[i]? with
  | none => K s
  | some o => YS P ops o s (E i) ∧ K (s.app o (E i))
def anyE (P : Program) (ops : Array Oper) (E : Nat → Eff) (Q : St → Prop) : Nat → Array Bool → St → Prop
  | 0, listed, s => Region.ready .any ops listed = [] ∧ Q s
  | fuel + 1, listed, s => (Region.ready .any ops listed = [] → Q s) ∧ ∀ i ∈ Region.ready .any ops listed, xE P ops E i (anyE P ops E Q fuel (listed.setIfInBounds i true)) s

/-- Two operations that don't meet. -/
structure Indep (ops : Array Oper) (E : Nat → Eff) (i j : Nat) : Prop where
  tm : disjL (tIds (E i)) (mIds (E j)) = true
  mt : disjL (tIds (E j)) (mIds (E i)) = true
  mm : disjL (mIds (E i)) (mIds (E j)) = true

theorem anyE_first {E : Nat → Eff} {Q : St → Prop} {i : Nat} {oi : Oper} (hi : ops[i]? = some oi) :
    ∀ (fuel : Nat) (listed : Array Bool) (s : St), Closed ops listed →
      (∀ j oj, ops[j]? = some oj → j ≠ i → listed.getD j true = false → ¬ Dep ops j i → oi.apart ops oj = true ∧ Indep ops E i j) →
      i ∈ Region.ready .any ops listed → YS P ops oi s (E i) → anyE P ops E Q fuel (listed.setIfInBounds i true) (s.app oi (E i)) → anyE P ops E Q (fuel + 1) listed s := by
  intro fuel
  induction fuel with
  | zero =>
    intro listed s _ _ hr hy H
    refine ⟨fun h => (by rw [h] at hr; cases hr), fun j hj => ?_⟩
    by_cases hji : j = i
    · subst hji; simp only [xE, hi]; exact ⟨hy, H⟩
    · have := ready_mono hj hji
      rw [H.1] at this
      cases this
  | succ fuel ih =>
    intro listed s hc hfree hr hy H
    refine ⟨fun h => (by rw [h] at hr; cases hr), fun j hj => ?_⟩
    by_cases hji : j = i
    · subst hji; simp only [xE, hi]; exact ⟨hy, H⟩
    · have h1 := H.2 j (ready_mono hj hji)
      obtain ⟨hjun, oj, hoj, hall⟩ := mem_ready.1 hj
      have hiun := (mem_ready.1 hr).1
      have hnd : ¬ Dep ops j i := ready_dep hc hj hiun
      obtain ⟨hap, hin⟩ := hfree j oj hoj hji hjun hnd
      obtain ⟨a1, a2, a3⟩ := Oper.apart_spec hap
      simp only [xE, hoj] at h1 ⊢
      obtain ⟨h2, h3⟩ := h1
      have h2' : YS P ops oj s (E j) := (YS.congr a1 hin.mt).1 h2
      refine ⟨h2', ?_⟩
      refine ih (listed.setIfInBounds j true) (s.app oj (E j)) (closed_set hc hj) (fun k ok hk hki hun hno => ?_) (ready_mono hr (Ne.symm hji)) ((YS.congr a3 hin.tm).2 hy) ?_
      · refine hfree k ok hk hki ?_ hno
        by_cases hjk : j = k
        · subst hjk; exact hjun
        · rw [getD_set_ne true hjk] at hun; exact hun
      · rw [Array.setIfInBounds_comm _ _ hji, ← app_comm (fun d hd => a2 d hd) hin.mm]
        exact h3

/-- The effects in the order of the text. -/
def LexE (P : Program) (ops : Array Oper) (E : Nat → Eff) (Q : St → Prop) : List Oper → Nat → St → Prop
  | [], _, s => Q s
  | o :: r, k, s => YS P ops o s (E k) ∧ LexE P ops E Q r (k + 1) (s.app o (E k))

theorem anyE_lex {E : Nat → Eff} {Q : St → Prop} (hin : ∀ i j oi oj, i < j → ops[i]? = some oi → ops[j]? = some oj → ¬ Dep ops j i → oi.apart ops oj = true ∧ Indep ops E i j) :
    ∀ (l : List Oper) (k : Nat) (listed : Array Bool) (s : St), (∀ j, l[j]? = ops[k + j]?) → Closed ops listed → (∀ j, listed.getD j true = false → k ≤ j) →
      Region.lexFrom .any ops l.length k listed = true → LexE P ops E Q l k s → anyE P ops E Q l.length listed s
  | [], _, _, _, _, _, _, hB, h => ⟨by simpa [Region.lexFrom] using hB, h⟩
  | o :: l, k, listed, s, hl, hc, hlo, hB, h => by
    have h0 : ops[k]? = some o := by simpa using (hl 0).symm
    simp only [List.length_cons, Region.lexFrom, Bool.and_eq_true] at hB
    obtain ⟨⟨hr, hf⟩, hB'⟩ := hB
    have hr' : k ∈ Region.ready .any ops listed := by simpa using hr
    refine anyE_first h0 l.length listed s hc (fun j oj hoj hjk hun hnd => ?_) hr' h.1
      (anyE_lex hin l (k + 1) _ _ (fun j => by have := hl (j + 1); simpa [Nat.add_assoc, Nat.add_comm 1 j] using this) (closed_set hc hr') (fun j hj => ?_) hB' h.2)
    · have := hlo j hun
      exact hin k j o oj (by omega) h0 hoj hnd
    · by_cases hjk : k = j
      · subst hjk
        rcases Nat.lt_or_ge k listed.size with h1 | h1
        · simp [h1] at hj
        · simp [Array.getElem?_eq_none, h1] at hj
      · rw [getD_set_ne true hjk] at hj
        have := hlo j hj
        omega
end
end Go.Av
end

section
/- Abstract values: a region whose order Go leaves open, walked once. -/
namespace Go.Av
open Go
set_option linter.unusedVariables false
set_option linter.unusedSimpArgs false
set_option linter.unusedSectionVars false
variable [Globs]

section
variable {P : Program} {ops : Array Oper}

theorem noRef_app {s : St} {o : Oper} {e : Eff} {d : Nat} (h : noRef s.T s.H d) (hr : d ∉ e.refs) : noRef (s.app o e).T (s.app o e).H d := by
  simp only [Eff.refs, List.mem_append, not_or] at hr
  refine ⟨fun i => ?_, fun j ty c hc => ?_⟩
  · unfold St.app
    cases ho : o.dst with
    | none => exact h.1 i
    | some d' =>
      simp only [St.put, upd]
      split
      · exact hr.1
      · exact h.1 i
  · have hc : mods s.H e.mod j = .row ty c := hc
    have key : ∀ (l : List (Nat × AObj)) (H : Nat → AObj), (∀ p ∈ l, d ∉ objRefs p.2) → (∀ j ty c, H j = .row ty c → d ∉ c.refs) → ∀ j ty c, mods H l j = .row ty c → d ∉ c.refs := by
      intro l
      induction l with
      | nil => intro H _ h; exact h
      | cons p l ih =>
        intro H h1 h2
        refine ih (upd H p.1 p.2) (fun q hq => h1 q (by simp [hq])) fun j ty c hj => ?_
        simp only [upd] at hj
        split at hj
        · have := h1 p (by simp)
          rw [hj] at this
          exact this
        · exact h2 j ty c hj
    exact key e.mod s.H (fun p hp hd => hr.2 (List.mem_flatMap.2 ⟨p, hp, hd⟩)) h.2 j ty c hc

/-- What the operations make is free as long as they have not come up. -/
def NewInv (ops : Array Oper) (E : Nat → Eff) (listed : Array Bool) (s : St) : Prop := ∀ j o, ops[j]? = some o → listed.getD j true = false → ∀ d ∈ (E j).new, s.H d = .dead ∧ noRef s.T s.H d

theorem YS.wp {o : Oper} {s : St} {e : Eff} {w : World} {F : Avoid} {m : Nat → Reg} {a : Act} {K : Act → World → Prop} {Q : Exit → Act → World → Prop} (h : YS P ops o s e) (hs : Sim w F m s a.tmps) (hn : ∀ d ∈ e.new, s.H d = .dead ∧ noRef s.T s.H d)
    (hK : ∀ x w' m', Sim w' F m' (s.app o e) (a.put o.dst x).tmps → Ev w m s.H w' m' (s.app o e).H → K (a.put o.dst x) w') :
    if Region.wanted o (yielded ops a.tmps) then o.wp P a w K Q else K (a.put o.dst undef) w := by
  have run : YS.run P o s e → o.wp P a w K Q := fun ⟨h1, h2, h3⟩ => xEff_sound h1 h2 hn h3 w F m a K Q hs hK
  unfold YS at h
  split at h
  · rename_i hg
    simp only [Region.wanted, hg, if_true]
    exact run h
  · rename_i j want hg
    obtain ⟨d, ob, g1, g2, g3, g4⟩ := h
    have hy : yielded ops a.tmps j = ob := St.yielded hs g1 g2
    by_cases hb : ob = some want
    · have hw : Region.wanted o (yielded ops a.tmps) = true := by simp [Region.wanted, hg, hy, hb]
      simp only [hw, if_true]
      exact run (g3 hb)
    · have hw : Region.wanted o (yielded ops a.tmps) = false := by simp [Region.wanted, hg, hy, hb]
      simp only [hw, Bool.false_eq_true, if_false]
      obtain ⟨g5, g6⟩ := g4 hb
      subst g5
      refine hK undef w m ?_ ?_
      · have := hs.put (a := a) (d := o.dst) (x := undef) (v := .tup []) g6 RepV.undef_nil
        have e1 : s.put o.dst (.tup []) = s.app o skipE := by
          unfold St.app
          cases ho : o.dst <;> simp [St.put, mods, skipE]
        rwa [e1] at this
      · exact Ev.refl _ _ _

theorem anyE_sound {E : Nat → Eff} {Q0 : St → Prop} {Q : Exit → Act → World → Prop} {w0 : World} {m0 : Nat → Reg} {H0 : Nat → AObj} {F : Avoid}
    (hK : ∀ (s : St) (w : World) (m : Nat → Reg) (a : Act), Sim w F m s a.tmps → a.defers = [] → Ev w0 m0 H0 w m s.H → Q0 s → Q .normal a w)
    (hnew : ∀ i j oi oj, ops[i]? = some oi → ops[j]? = some oj → i ≠ j → ¬ Dep ops i j → disjL (E j).new ((E i).refs ++ mIds (E i)) = true) :
    ∀ (fuel : Nat) (listed : Array Bool) (s : St) (w : World) (m : Nat → Reg) (a : Act), Sim w F m s a.tmps → a.defers = [] → Ev w0 m0 H0 w m s.H → Closed ops listed → NewInv ops E listed s → anyE P ops E Q0 fuel listed s →
      wpAny P .any ops Q fuel listed a w
  | 0, listed, s, w, m, a, hs, hd, hev, hc, hN, h => ⟨h.1, hK s w m a hs hd hev h.2⟩
  | fuel + 1, listed, s, w, m, a, hs, hd, hev, hc, hN, h => by
    refine ⟨fun h0 => hK s w m a hs hd hev (h.1 h0), fun i hi => ?_⟩
    have h1 := h.2 i hi
    obtain ⟨hiun, oi, hoi, hall⟩ := mem_ready.1 hi
    simp only [xE, hoi] at h1
    obtain ⟨h2, h3⟩ := h1
    unfold wpOp
    simp only [hoi]
    have hwp := h2.wp (Q := Q) (K := wpAny P .any ops Q fuel (listed.setIfInBounds i true)) hs (hN i oi hoi hiun) fun x w' m' hs' hev' =>
      anyE_sound hK hnew fuel (listed.setIfInBounds i true) (s.app oi (E i)) w' m' _ hs' (by cases oi.dst <;> simpa [Act.put] using hd) (hev.trans hev') (closed_set hc hi) (fun j oj hoj hjun d hdn => by
        have hij : i ≠ j := fun e => by
          subst e
          rcases Nat.lt_or_ge i listed.size with h4 | h4
          · simp [h4] at hjun
          · simp [Array.getElem?_eq_none, h4] at hjun
        rw [getD_set_ne true hij] at hjun
        obtain ⟨k1, k2⟩ := hN j oj hoj hjun d hdn
        have hdis := disjL_spec (hnew i j oi oj hoi hoj hij (ready_dep hc hi hjun)) hdn
        simp only [List.mem_append, not_or] at hdis
        refine ⟨?_, noRef_app k2 hdis.1⟩
        rw [app_H hdis.2]
        exact k1) h3
    split
    · rename_i hw
      rw [if_pos hw] at hwp
      exact .inl hwp
    · rename_i hw
      rw [if_neg hw] at hwp
      exact hwp

/-! ### the walk in the order of the text, its effects written down -/
def aLex (P : Program) (ops : Array Oper) : List Oper → LS → List Eff → (List Eff → LS → Prop) → Prop
  | [], s, es, K => K es s
  | o :: r, s, es, K =>
    match o.guard with
    | none => ∃ e, xEff P o s.ev e ∧ (∀ p ∈ e.touch, lkH s.H p.1 = p.2) ∧ dOk s.n o.dst ∧ aLex P ops r (s.app o.dst e) (es ++ [e]) K
    | some (j, want) => ∃ d ob, guardD ops j = some d ∧ gval (lkT s.T d) = some ob ∧
        (ob = some want → ∃ e, xEff P o s.ev e ∧ (∀ p ∈ e.touch, lkH s.H p.1 = p.2) ∧ dOk s.n o.dst ∧ aLex P ops r (s.app o.dst e) (es ++ [e]) K) ∧
        (ob ≠ some want → dOk s.n o.dst ∧ aLex P ops r (s.app o.dst skipE) (es ++ [skipE]) K)

theorem aLex_spec {K : List Eff → LS → Prop} : ∀ (l : List Oper) (s : LS) (es : List Eff), aLex P ops l s es K →
    ∃ es' s', es'.length = l.length ∧ K (es ++ es') s' ∧ ∀ (E : Nat → Eff) (k : Nat), (∀ i e, es'[i]? = some e → E (k + i) = e) → ∀ Q : St → Prop, Q s'.st → LexE P ops E Q l k s.st
  | [], s, es, h => ⟨[], s, rfl, by simpa [aLex] using h, fun E k _ Q hq => hq⟩
  | o :: l, s, es, h => by
    have go : ∀ e, YS P ops o s.st e → aLex P ops l (s.app o.dst e) (es ++ [e]) K → ∃ es' s', es'.length = (o :: l).length ∧ K (es ++ es') s' ∧ ∀ (E : Nat → Eff) (k : Nat), (∀ i e, es'[i]? = some e → E (k + i) = e) → ∀ Q : St → Prop, Q s'.st → LexE P ops E Q (o :: l) k s.st := fun e hy h => by
      obtain ⟨es', s', h1, h2, h3⟩ := aLex_spec l _ _ h
      refine ⟨e :: es', s', by simp [h1], by simpa using h2, fun E k hE Q hq => ?_⟩
      have he : E k = e := hE 0 e rfl
      refine ⟨by rw [he]; exact hy, ?_⟩
      rw [he, ← LS.st_app]
      exact h3 E (k + 1) (fun i e' hi => by have := hE (i + 1) e' (by simpa using hi); rwa [show k + (i + 1) = k + 1 + i by omega] at this) Q hq
    simp only [aLex] at h
    split at h
    · rename_i hg
      obtain ⟨e, h1, h2, h3, h4⟩ := h
      exact go e (by unfold YS; rw [hg]; exact ⟨by rw [LS.ev_st]; exact h1, h2, dOk_st h3⟩) h4
    · rename_i j want hg
      obtain ⟨d, ob, h1, h2, h3, h4⟩ := h
      by_cases hb : ob = some want
      · obtain ⟨e, g1, g2, g3, g4⟩ := h3 hb
        exact go e (by unfold YS; rw [hg]; exact ⟨d, ob, h1, h2, fun _ => ⟨by rw [LS.ev_st]; exact g1, g2, dOk_st g3⟩, fun hn => absurd hb hn⟩) g4
      · obtain ⟨g1, g2⟩ := h4 hb
        exact go _ (by unfold YS; rw [hg]; exact ⟨d, ob, h1, h2, fun hy => absurd hy hb, fun _ => ⟨rfl, dOk_st g1⟩⟩) g2

/-! ### which operation waits for which -/
def befs (ops : List Oper) : List Nat :=
  ops.foldl (fun acc o => acc ++ [o.after.toList.foldl (fun s e => if Region.binds .any e then s ||| 2 ^ e.on ||| acc.getD e.on 0 else s) 0]) []

theorem fold_bits {ops : Array Oper} {o : Oper} {k : Nat} (ho : ops[k]? = some o) {acc : List Nat} (hacc : ∀ j i, (acc.getD j 0).testBit i = true → Dep ops j i) :
    ∀ (l : List Edge) (s : Nat), (∀ e ∈ l, e ∈ o.after) → (∀ i, s.testBit i = true → Dep ops k i) → ∀ i, (l.foldl (fun s e => if Region.binds .any e then s ||| 2 ^ e.on ||| acc.getD e.on 0 else s) s).testBit i = true → Dep ops k i
  | [], s, _, h, i, hi => h i hi
  | e :: l, s, hl, h, i, hi => by
    refine fold_bits ho hacc l _ (fun e' he' => hl e' (by simp [he'])) (fun i hi => ?_) i hi
    dsimp only at hi
    split at hi
    · rename_i hb
      rw [Nat.testBit_or, Nat.testBit_or, Bool.or_eq_true, Bool.or_eq_true] at hi
      rcases hi with (hi | hi) | hi
      · exact h i hi
      · rw [Nat.testBit_two_pow] at hi
        have : e.on = i := by simpa using hi
        exact this ▸ Dep.one ho (hl e (by simp)) hb
      · exact Dep.more ho (hl e (by simp)) hb (hacc _ _ hi)
    · exact h i hi

theorem befs_dep {ops : Array Oper} : ∀ j i, ((befs ops.toList).getD j 0).testBit i = true → Dep ops j i := by
  have key : ∀ (l : List Oper) (acc : List Nat), (∀ j, l[j]? = ops[acc.length + j]?) → (∀ j i, (acc.getD j 0).testBit i = true → Dep ops j i) →
      ∀ j i, ((l.foldl (fun acc o => acc ++ [o.after.toList.foldl (fun s e => if Region.binds .any e then s ||| 2 ^ e.on ||| acc.getD e.on 0 else s) 0]) acc).getD j 0).testBit i = true → Dep ops j i := by
    intro l
    induction l with
    | nil => intro acc _ h j i; exact h j i
    | cons o l ih =>
      intro acc hl h
      have ho : ops[acc.length]? = some o := by have := hl 0; simpa using this.symm
      refine ih _ (fun j => by have := hl (j + 1); simpa [Nat.add_assoc, Nat.add_comm 1 j] using this) fun j i hji => ?_
      rw [List.getD_eq_getElem?_getD] at hji
      by_cases hj : j < acc.length
      · rw [List.getElem?_append_left hj, ← List.getD_eq_getElem?_getD] at hji
        exact h j i hji
      · by_cases hj2 : j = acc.length
        · subst hj2
          rw [List.getElem?_append_right (Nat.le_refl _), Nat.sub_self] at hji
          exact fold_bits ho h o.after.toList 0 (fun e he => by simpa using he) (fun i hi => by simp at hi) i (by simpa using hji)
        · rw [List.getElem?_append_right (by omega)] at hji
          obtain ⟨q, hq⟩ : ∃ q, j - acc.length = q + 1 := ⟨j - acc.length - 1, by omega⟩
          rw [hq] at hji
          simp at hji
  exact key ops.toList [] (by simp) (fun j i h => by simp at h)

/-- What an effect touches, changes, makes and refers to. -/
structure Foot where
  t : List Nat
  m : List Nat
  n : List Nat
  r : List Nat
def Eff.foot (e : Eff) : Foot := ⟨idsOf e.touch, idsOf e.mod, e.new, e.refs⟩
def pairOk (dep : Bool) (i j : Foot) : Bool := disjL j.n (i.r ++ i.m) && (dep || (disjL i.t j.m && disjL j.t i.m && disjL i.m j.m && disjL i.n (j.r ++ j.m)))
def pairsOk (bs : List Nat) (fs : List Foot) : Bool :=
  (List.range fs.length).all fun j => (List.range j).all fun i => pairOk ((bs.getD j 0).testBit i) (fs.getD i ⟨[], [], [], []⟩) (fs.getD j ⟨[], [], [], []⟩)
def apartAll (ops : Array Oper) (bs : List Nat) : Bool :=
  (List.range ops.size).all fun j => (List.range j).all fun i => (bs.getD j 0).testBit i || match ops[i]?, ops[j]? with
    | some oi, some oj => oi.apart ops oj
    | _, _ => true
/-- What is asked of the region's text alone. -/
def drawB (P : Program) (ops : Array Oper) : Bool := P.follows .mixedOrders && Region.lexB .any ops && apartAll ops (befs ops.toList)

theorem aw_region_draw {id : Nat} {Q : Exit → LS → Prop} {s : LS} (bs : List Nat) (hB : drawB P ops = true) (hbs : befs ops.toList = bs)
    (h : aLex P ops ops.toList s [] fun es s' => pairsOk bs (es.map Eff.foot) = true ∧ (∀ e ∈ es, ∀ d ∈ e.new, lkH s.H d = .dead ∧ s.free d) ∧ Q .normal s') : AWp P (.region id ops true) Q s := fun w F m a hs hd => by
  simp only [drawB, Bool.and_eq_true] at hB
  obtain ⟨⟨hm, hlex⟩, hap⟩ := hB
  obtain ⟨es, s', h1, ⟨h2, h3, h4⟩, h5⟩ := aLex_spec _ _ _ h
  simp only [List.nil_append] at h2 h3
  let E : Nat → Eff := fun i => es.getD i { v := .any 1 }
  have hE : ∀ i e, es[i]? = some e → E (0 + i) = e := fun i e hi => by simp [E, List.getD_eq_getElem?_getD, hi]
  have hlen : es.length = ops.size := by simpa using h1
  have hpair : ∀ i j, i < j → j < ops.size → pairOk ((bs.getD j 0).testBit i) (E i).foot (E j).foot = true := fun i j hij hj => by
    simp only [pairsOk, List.all_eq_true, List.mem_range, List.length_map] at h2
    have := h2 j (by omega) i hij
    have e1 : ∀ k, k < es.length → (es.map Eff.foot).getD k ⟨[], [], [], []⟩ = (E k).foot := fun k hk => by
      simp [E, List.getD_eq_getElem?_getD, List.getElem?_eq_getElem hk]
    rwa [e1 i (by omega), e1 j (by omega)] at this
  have hdep : ∀ i j, (bs.getD j 0).testBit i = true → Dep ops j i := fun i j h => befs_dep j i (by rw [hbs]; exact h)
  have hlexE : LexE P ops E (fun st => st = s'.st) ops.toList 0 s.st := h5 E 0 hE _ rfl
  simp only [Region.lexB, Bool.and_eq_true] at hlex
  have hcl : Closed ops (Array.replicate ops.size false) := fun j hj => by
    rcases Nat.lt_or_ge j ops.size with h | h
    · simp [h] at hj
    · simp [Array.getElem?_eq_none, h] at hj
  have hany := anyE_lex (P := P) (ops := ops) (E := E) (Q := fun st => st = s'.st) (fun i j oi oj hij hoi hoj hnd => by
      have hj := (Array.getElem?_eq_some_iff.1 hoj).1
      have hp := hpair i j hij hj
      have hb : (bs.getD j 0).testBit i = false := by
        cases hb : (bs.getD j 0).testBit i with
        | false => rfl
        | true => exact absurd (hdep i j hb) hnd
      simp only [pairOk, hb, Bool.false_or, Bool.and_eq_true] at hp
      obtain ⟨p1, ⟨⟨p2, p3⟩, p4⟩, p5⟩ := hp
      refine ⟨?_, ⟨p2, p3, p4⟩⟩
      simp only [apartAll, List.all_eq_true, List.mem_range] at hap
      have := hap j hj i hij
      rw [hbs] at this
      rw [hb] at this
      simp only [Bool.false_or, hoi, hoj] at this
      exact this)
    ops.toList 0 (Array.replicate ops.size false) s.st (by simp) hcl (fun j _ => Nat.zero_le _) (by simpa using hlex.2) hlexE
  refine wp_region_any hm ?_
  have hs1 : Sim { w with drawn := w.drawn + 1 } F m s.st a.tmps := hs.grow (Fr.drew w)
  have hev1 : Ev w m s.st.H { w with drawn := w.drawn + 1 } m s.st.H := Ev.of_fr (Fr.drew w)
  have := anyE_sound (P := P) (ops := ops) (E := E) (Q0 := fun st => st = s'.st) (Q := fun ex a' w' => a'.defers = [] ∧ ∃ s' m', Sim w' F m' s'.st a'.tmps ∧ Ev w m s.st.H w' m' s'.st.H ∧ Q ex s') (w0 := w) (m0 := m) (H0 := s.st.H) (F := F)
    (fun st w' m' a' k1 k2 k3 k4 => by subst k4; exact ⟨k2, s', m', k1, k3, h4⟩)
    (fun i j oi oj hoi hoj hij hnd => by
      have hi := (Array.getElem?_eq_some_iff.1 hoi).1
      have hj := (Array.getElem?_eq_some_iff.1 hoj).1
      rcases Nat.lt_or_gt_of_ne hij with h | h
      · have hp := hpair i j h hj
        simp only [pairOk, Bool.and_eq_true] at hp
        exact hp.1
      · have hp := hpair j i h hi
        have hb : (bs.getD i 0).testBit j = false := by
          cases hb : (bs.getD i 0).testBit j with
          | false => rfl
          | true => exact absurd (hdep j i hb) hnd
        simp only [pairOk, hb, Bool.false_or, Bool.and_eq_true] at hp
        exact hp.2.2)
    ops.size (Array.replicate ops.size false) s.st { w with drawn := w.drawn + 1 } m a hs1 hd hev1 hcl
    (fun j o ho _ d hdn => by
      have hj := (Array.getElem?_eq_some_iff.1 ho).1
      have hmem : E j ∈ es := by
        have : es[j]? = some (E j) := by simp [E, List.getD_eq_getElem?_getD, List.getElem?_eq_getElem (show j < es.length by omega)]
        exact List.mem_of_getElem? this
      obtain ⟨q1, q2⟩ := h3 _ hmem d hdn
      exact ⟨q1, LS.free_noRef q2⟩)
    (by simpa using hany)
  exact this
end
end Go.Av
end

section
/- Abstract values: the effects of the operations, as functions that 'simp' runs. -/
namespace Go.Av
open Go
set_option linter.unusedVariables false
set_option linter.unusedSimpArgs false
set_option linter.unusedSectionVars false
variable [Globs]

/-- The element at a place (places in the list alone are asked for). -/
def ix {α : Type} [Inhabited α] (l : List α) (i : Nat) : α := l.getD i default
theorem ix_map {α β : Type} [Inhabited α] [Inhabited β] {f : α → β} {l : List α} {i : Nat} (h : i < l.length) : ix (l.map f) i = f (ix l i) := by
  simp [ix, List.getD_eq_getElem?_getD, h]
theorem ix_get {α : Type} [Inhabited α] {l : List α} {i : Nat} (h : i < l.length) : ix l i = l[i] := by
  simp [ix, List.getD_eq_getElem?_getD, h]
theorem ix_some {α : Type} [Inhabited α] {l : List α} {i : Nat} (h : i < l.length) : l[i]? = some (ix l i) := by
  rw [ix_get h, List.getElem?_eq_getElem h]
theorem ix_zero {α : Type} [Inhabited α] {a : α} {l : List α} : ix (a :: l) 0 = a := rfl
theorem ix_succ {α : Type} [Inhabited α] {a : α} {l : List α} {i : Nat} : ix (a :: l) (i + 1) = ix l i := rfl

inductive Res where
  | ok (side : Prop) (e : Eff)
  | bad
  | any (q : Eff → Prop)
  | both (side : Prop)
  | each (side : Prop)

def loadF2 (P : Program) (t : TypeId) (id : Nat) (ty : TypeId) (c : AV) : Option AV → Res
  | some c' => .ok (c'.cellish = true ∧ ldOf P t = some (c'.isAgg, c'.size)) { v := c', touch := [(id, .row ty c)] }
  | none => .bad
def loadF1 (P : Program) (t : TypeId) (id : Nat) (path : List Nat) : AObj → Res
  | .row ty c => loadF2 P t id ty c (c.get? path)
  | _ => .bad
def loadF (P : Program) (t : TypeId) (H : List (Nat × AObj)) : AV → Res
  | .ptr id path => loadF1 P t id path (lkH H id)
  | .pp y => .ok (ldOf P t = some ((AV.p y).isAgg, y.size)) { v := .p y }
  | _ => .bad

def storeF2 (P : Program) (t : TypeId) (dst : Option Tmp) (id : Nat) (ty : TypeId) (c y : AV) : Option AV → Option AV → Res
  | some old, some c' => .ok (dst = none ∧ y.shape = old.shape ∧ y.cellish = true ∧ (ldOf P t).map (·.2) = some y.size) { v := .any 1, touch := [(id, .row ty c)], mod := [(id, .row ty c')] }
  | _, _ => .bad
def storeF1 (P : Program) (t : TypeId) (dst : Option Tmp) (id : Nat) (path : List Nat) (y : AV) : AObj → Res
  | .row ty c => storeF2 P t dst id ty c y (c.get? path) (c.set? path y)
  | _ => .bad
def storeF (P : Program) (t : TypeId) (dst : Option Tmp) (H : List (Nat × AObj)) (y : AV) : AV → Res
  | .ptr id path => storeF1 P t dst id path y (lkH H id)
  | _ => .bad

def nilF1 (id : Nat) (path : List Nat) : AObj → Res
  | .row ty c => .ok True { v := .ptr id path, touch := [(id, .row ty c)] }
  | _ => .bad
def nilF (H : List (Nat × AObj)) : AV → Res
  | .ptr id path => nilF1 id path (lkH H id)
  | .pp y => .ok True { v := .pp y }
  | _ => .bad

/-! ### operators -/
def bAnd (k : IntKind) (a b : Int) : Nat := (BitVec.ofInt k.bits a &&& BitVec.ofInt k.bits b).toNat
def bOr (k : IntKind) (a b : Int) : Nat := (BitVec.ofInt k.bits a ||| BitVec.ofInt k.bits b).toNat
def bXor (k : IntKind) (a b : Int) : Nat := (BitVec.ofInt k.bits a ^^^ BitVec.ofInt k.bits b).toNat
def intF (k : IntKind) (a b : Int) : BinOp → Option Value
  | .add => some (.int k (k.wrap (a + b)))
  | .sub => some (.int k (k.wrap (a - b)))
  | .mul => some (.int k (k.wrap (a * b)))
  | .quo => if b = 0 then none else some (.int k (k.wrap (a.tdiv b)))
  | .rem => if b = 0 then none else some (.int k (a.tmod b))
  | .and => some (.int k (k.wrap (bAnd k a b)))
  | .or => some (.int k (k.wrap (bOr k a b)))
  | .xor => some (.int k (k.wrap (bXor k a b)))
  | .eql => some (.bool (a == b))
  | .neq => some (.bool (a != b))
  | .lss => some (.bool (a < b))
  | .leq => some (.bool (a ≤ b))
  | .gtr => some (.bool (a > b))
  | .geq => some (.bool (a ≥ b))
  | _ => none
def shF (k : IntKind) (a b : Int) : BinOp → Option Value
  | .shl => if b < 0 then none else some (.int k (k.wrap (a * 2 ^ (min b.toNat k.bits))))
  | .shr => if b < 0 then none else some (.int k (a.fdiv (2 ^ (min b.toNat k.bits))))
  | _ => none
/-- Whether two single values are the same, as '==' finds out. -/
def eqF (P : Program) (t : TypeId) (cst : Bool) : Value → Value → Option Bool
  | .bool a, .bool b => match P.underlying t with
    | some .bool => some (a == b)
    | _ => none
  | .nilIface, .nilIface => match P.underlying t with
    | some (.interface _) => if cst then some true else none
    | _ => none
  | .iface _ _, .nilIface => match P.underlying t with
    | some (.interface _) => some false
    | _ => none
  | .nilFunc, .nilFunc => match P.underlying t with
    | some (.func _ _ _) => some true
    | _ => none
  | .pointer none, .pointer none => match P.underlying t with
    | some (.pointer _) => some true
    | _ => none
  | .slice none 0 0, .slice none 0 0 => match P.underlying t with
    | some (.slice _) => some true
    | _ => none
  | _, _ => none
/-- What an operator yields of two single values. -/
def valF (P : Program) (op : BinOp) (t : TypeId) (cst : Bool) (x y : Value) : Option Value :=
  match x, y with
  | .int k a, .int k' b => match op with
    | .shl => shF k a b .shl
    | .shr => shF k a b .shr
    | op => if k = k' then intF k a b op else none
  | .string a, .string b => match op with
    | .eql => some (.bool (a.data.toList == b.data.toList))
    | .neq => some (.bool (a.data.toList != b.data.toList))
    | _ => none
  | x, y => match op with
    | .eql => (eqF P t cst x y).map fun b => .bool b
    | .neq => (eqF P t cst x y).map fun b => .bool !b
    | _ => none
def isConst : Operand → Bool
  | .const _ => true
  | _ => false

theorem toList_loop (s : ByteArray) : ∀ (k i : Nat) (r : List UInt8), s.size - i = k → ByteArray.toList.loop s i r = r.reverse ++ s.data.toList.drop i := by
  intro k
  induction k with
  | zero =>
    intro i r h
    unfold ByteArray.toList.loop
    have hi : ¬ i < s.size := by omega
    rw [if_neg hi, List.drop_eq_nil_of_le (by have : s.data.toList.length = s.size := by rw [Array.length_toList]; rfl
                                              omega)]
    simp
  | succ k ih =>
    intro i r h
    unfold ByteArray.toList.loop
    have hi : i < s.size := by omega
    rw [if_pos hi, ih (i + 1) _ (by omega)]
    have hlt : i < s.data.toList.length := by rw [Array.length_toList]; exact hi
    have hg : s.get! i = s.data.toList[i] := by
      cases s with
      | mk d =>
        have hi' : i < d.size := hi
        show d[i]! = _
        rw [Array.getElem!_eq_getD, Array.getD, dif_pos hi']
        simp
    rw [hg, List.drop_eq_getElem_cons hlt]
    simp
theorem toList_data (s : ByteArray) : s.toList = s.data.toList := by
  unfold ByteArray.toList
  rw [toList_loop s _ 0 [] rfl]
  simp

theorem eqF_run {P : Program} {t : TypeId} {x y : Operand} {vx vy : Value} {b : Bool} {op : BinOp} (h : eqF P t (isConst x || isConst y) vx vy = some b) (w : World) :
    (eqGuard op t x y vx vy).run P w = .ok () w ∧ (Op.equal t vx vy).run P w = .ok b w ∧
      binOp .eql t vx vy = (do pure (.bool (← Op.equal t vx vy))) ∧ binOp .neq t vx vy = (do pure (.bool (!(← Op.equal t vx vy)))) := by
  have g0 : ∀ {vx vy : Value}, (∀ u v, ¬ (vx = .agg u ∧ vy = .agg v)) → ¬ (vx = .nilIface ∧ vy = .nilIface) → (eqGuard op t x y vx vy).run P w = .ok () w := by
    intro vx vy h1 h2
    have key : ∀ op, (op = .eql ∨ op = .neq) → (eqGuard op t x y vx vy).run P w = .ok () w := by
      intro op ho
      rcases ho with rfl | rfl
      all_goals
        simp only [eqGuard, Bool.not_true, Bool.false_eq_true, if_false]
        split
        · exact absurd ⟨rfl, rfl⟩ h2
        · exact absurd ⟨rfl, rfl⟩ (h1 _ _)
        · rfl
    cases op <;> first | exact key _ (.inl rfl) | exact key _ (.inr rfl) | rfl
  have e0 : ∀ {b : Bool} {vx vy : Value} (D : TypeDesc), P.underlying t = some D → (∀ n, (Op.equalIn (n + 1) t vx vy).run P w = .ok b w) → (Op.equal t vx vy).run P w = .ok b w := by
    intro b vx vy D hu h
    unfold Op.equal
    exact h 9999
  unfold eqF at h
  split at h
  · split at h
    · rename_i hu
      simp at h; subst h
      exact ⟨g0 (by simp) (by simp), e0 _ hu fun n => by simp [Op.equalIn, run_underlying hu], rfl, rfl⟩
    · cases h
  · split at h
    · rename_i hu
      split at h
      · rename_i hc
        simp at h; subst h
        refine ⟨?_, e0 _ hu fun n => by simp [Op.equalIn, run_underlying hu], rfl, rfl⟩
        cases op <;> first | rfl | (cases x <;> cases y <;> simp [isConst] at hc <;> rfl)
      · cases h
    · cases h
  · split at h
    · rename_i hu
      simp at h; subst h
      exact ⟨g0 (by simp) (by simp), e0 _ hu fun n => by simp [Op.equalIn, run_underlying hu], rfl, rfl⟩
    · cases h
  · split at h
    · rename_i hu
      simp at h; subst h
      exact ⟨g0 (by simp) (by simp), e0 _ hu fun n => by simp [Op.equalIn, run_underlying hu], rfl, rfl⟩
    · cases h
  · split at h
    · rename_i hu
      simp at h; subst h
      exact ⟨g0 (by simp) (by simp), e0 _ hu fun n => by simp [Op.equalIn, run_underlying hu], rfl, rfl⟩
    · cases h
  · split at h
    · rename_i hu
      simp at h; subst h
      exact ⟨g0 (by simp) (by simp), e0 _ hu fun n => by simp [Op.equalIn, run_underlying hu], rfl, rfl⟩
    · cases h
  · cases h

theorem binRun_key {P : Program} {op : BinOp} {t : TypeId} {x y : Operand} {vx vy r : Value} (h : valF P op t (isConst x || isConst y) vx vy = some r) :
    r.oneCell' = true ∧ ∀ w : World, (do eqGuard op t x y vx vy; binOp op t vx vy : Sem Value).run P w = .ok r w := by
  unfold valF at h
  split at h
  · -- ints
    rename_i k a k' b
    have g0 : ∀ w : World, (eqGuard op t x y (.int k a) (.int k' b)).run P w = .ok () w := by
      intro w
      cases op <;> rfl
    have go : ∀ {f : Sem Value}, binOp op t (.int k a) (.int k' b) = f → (∀ w : World, f.run P w = .ok r w) → ∀ w : World, (do eqGuard op t x y (.int k a) (.int k' b); binOp op t (.int k a) (.int k' b) : Sem Value).run P w = .ok r w := by
      intro f h1 h2 w
      simp only [Sem.run_bind, g0 w, Result.andThen_ok, h1, h2 w]
    split at h
    · unfold shF at h
      simp only at h
      split at h
      · cases h
      · rename_i hb
        injection h with h; subst h
        exact ⟨rfl, go rfl fun w => by simp only [binOp, Op.shift, hb, if_false]; rfl⟩
    · unfold shF at h
      simp only at h
      split at h
      · cases h
      · rename_i hb
        injection h with h; subst h
        exact ⟨rfl, go rfl fun w => by simp only [binOp, Op.shift, hb, if_false]; rfl⟩
    · split at h
      · rename_i hk
        subst hk
        unfold intF at h
        split at h <;> (try split at h) <;> simp at h <;> subst h <;> refine ⟨rfl, go (f := _) (by simp only [binOp]; rfl) fun w => ?_⟩ <;> simp_all [Op.intArith, Op.intDiv, Op.intBits, Op.intCmp, bAnd, bOr, bXor]
      · cases h
  · rename_i a b
    have g0 : ∀ w : World, (eqGuard op t x y (.string a) (.string b)).run P w = .ok () w := by
      intro w
      cases op <;> rfl
    split at h
    · injection h with h; subst h
      exact ⟨rfl, fun w => by simp only [Sem.run_bind, g0 w, Result.andThen_ok, binOp, Op.stringOp, toList_data]; rfl⟩
    · injection h with h; subst h
      exact ⟨rfl, fun w => by simp only [Sem.run_bind, g0 w, Result.andThen_ok, binOp, Op.stringOp, toList_data]; rfl⟩
    · cases h
  · split at h
    · cases he : eqF P t (isConst x || isConst y) vx vy with
      | none => rw [he] at h; cases h
      | some b =>
        rw [he] at h
        simp at h; subst h
        refine ⟨rfl, fun w => ?_⟩
        obtain ⟨h1, h2, h3, h4⟩ := eqF_run (op := .eql) he w
        simp only [Sem.run_bind, h1, Result.andThen_ok, h3, h2, Sem.run_pure]
    · cases he : eqF P t (isConst x || isConst y) vx vy with
      | none => rw [he] at h; cases h
      | some b =>
        rw [he] at h
        simp at h; subst h
        refine ⟨rfl, fun w => ?_⟩
        obtain ⟨h1, h2, h3, h4⟩ := eqF_run (op := .neq) he w
        simp only [Sem.run_bind, h1, Result.andThen_ok, h4, h2, Sem.run_pure]
    · cases h

theorem binRun_of {P : Program} {op : BinOp} {t : TypeId} {x y : Operand} {vx vy r : Value} (h : valF P op t (isConst x || isConst y) vx vy = some r) : BinRun P op t x y (.v vx) (.v vy) r := by
  have key := binRun_key h
  refine ⟨key.1, fun w A ux uy hx hy => ?_⟩
  simp only [AV.isAgg, Bool.false_eq_true, if_false] at hx hy
  have e1 := hx.v_inv
  have e2 := hy.v_inv
  injection e1 with e1 _
  injection e2 with e2 _
  subst e1; subst e2
  exact key.2 w
end Go.Av
end
