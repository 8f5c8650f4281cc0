-- Laid by a program of this session out of the translation (its own run of the print). Lean checks it.
import Derived.Test.YtfogfjmkngoegaaPFnExactEncodePngx0
import Derived.Test.YtfogfjmkngoegaaPFnExactEncodePngx1
namespace Go.Proofs.Ytfogfjmkngoegaa.PFnExactEncodePng
open Go.RowKit Go.Proofs.YtfogfjmkngoegaaW.PrintWords Go.Proofs.YtfogfjmkngoegaaW.PrintLast Go.Proofs.YtfogfjmkngoegaaW.PrintMore
attribute [local go_sem] max2_int min2_int max_two min_two max_three min_three max_four min_four   -- for this text's walks alone
set_option linter.unusedVariables false
set_option linter.unusedSimpArgs false

/-! ### spec_l3Chunk: function 57 -/
/-- append([]byte(s), ys...): a row that the call alone has; told for every world in which its block is as it is here. -/
theorem conv_app_run_ {P : Program} (t ty e : TypeId) (z : Value) (ht : P.underlying t = some (.slice e)) (hinfo : (P.info? e).map (fun i => (i.zero, i.size, i.bytes)) = some (some z, 1, 1)) (hz : z.cells.size = 1)
  (W : World) (s : ByteArray) (A : Option Addr) (m c : Nat) (ys : List Int) (HR : (Kd.int .u8).C (Lib.bytesWorld W e s) A m ys) (hl : s.size + m ≤ 140737488355327) :
  ∃ b c1 w1, (Builtin.append_ #[t, t] ty #[.slice (some ⟨W.heap.size, 0, none⟩) s.size (grownCap W s.size 0 e), .slice A m c]).run P (Lib.bytesWorld W e s) = .ok (.slice (some ⟨b, 0, none⟩) (bytesOf s ++ ys).length c1) w1 ∧
   (bytesOf s ++ ys).length ≤ c1 ∧ W.heap.size ≤ b ∧ b < w1.heap.size ∧ Below W.heap.size W w1 ∧ ∀ W' : World, W'.heap[b]? = w1.heap[b]? → (Kd.int .u8).C W' (some ⟨b, 0, none⟩) (bytesOf s ++ ys).length (bytesOf s ++ ys) := by
 obtain ⟨i0, hi, hzz⟩ := Option.map_eq_some_iff.1 hinfo
 simp only [Prod.mk.injEq] at hzz
 obtain ⟨hz0, hz1, hz2⟩ := hzz
 have hys := Kd.reads_of_C (d := (0 : Int)) HR
 have hm : ys.length = m := hys.1
 have hbl := bytesOf_length s
 have hlen : (bytesOf s ++ ys).length = s.size + m := by rw [List.length_append, hbl, hm]
 have hcap := grownCap_ge W s.size 0 e
 have hB1 : Below W.heap.size W (Lib.bytesWorld W e s) := bytes_below (Below.refl _ _) (Nat.le_refl _) e s
 have hsz1 := Lib.bytesWorld_size W e s
 have hbr := bytes_reads W e s (by omega)
 have hold : ∀ j, j < s.size → (Lib.bytesWorld W e s).cell? ⟨W.heap.size, j, none⟩ = some (.int .u8 ((bytesOf s).getD j 0)) := by
  intro j hj
  obtain ⟨ad, e1, hc⟩ := hbr.2.2 (by omega)
  injection e1 with e1
  subst e1
  have := hc j hj
  rw [add_plain] at this
  exact this
 have told : ∀ (b : Nat) (w1 : World), (∀ j, j < s.size + m → w1.cell? ⟨b, j, none⟩ = some (.int .u8 ((bytesOf s ++ ys).getD j 0))) → ∀ W' : World, W'.heap[b]? = w1.heap[b]? → (Kd.int .u8).C W' (some ⟨b, 0, none⟩) (bytesOf s ++ ys).length (bytesOf s ++ ys) := by
  intro b w1 hc W' hW
  refine Kd.C_of_reads (d := (0 : Int)) (h1 := fun _ => rfl) ⟨rfl, by omega, fun _ => ⟨_, rfl, fun j hj => ?_⟩⟩
  rw [hlen] at hj
  rw [add_plain]
  show World.cell? W' _ = _
  rw [← hc j hj]
  unfold World.cell?
  rw [hW]
 have gl : ∀ j, j < s.size → (bytesOf s ++ ys).getD j 0 = (bytesOf s).getD j 0 := fun j hj => by
  rw [List.getD_eq_getElem?_getD, List.getElem?_append_left (by omega), ← List.getD_eq_getElem?_getD]
 have gr : ∀ j, (bytesOf s ++ ys).getD (s.size + j) 0 = ys.getD j 0 := fun j => by
  rw [List.getD_eq_getElem?_getD, List.getElem?_append_right (by omega), hbl, Nat.add_sub_cancel_left, ← List.getD_eq_getElem?_getD]
 rw [hlen]
 rcases Nat.eq_zero_or_pos m with hm0 | hmp
 ·subst hm0
  obtain rfl : ys = [] := List.eq_nil_of_length_eq_zero hm
  refine ⟨W.heap.size, grownCap W s.size 0 e, Lib.bytesWorld W e s, ?_, by omega, Nat.le_refl _, by omega, hB1, ?_⟩
  ·cases A <;> simp [Builtin.append_, run_underlying ht, sizeOf, typeInfo, hi, Builtin.lenOf, Builtin.firstCells, hcap, storeCells, loadCells, loadCellsFrom]
  ·rw [← hlen]
   exact told _ _ (fun j hj => by rw [gl j (by omega)]; exact hold j (by omega))
 ·obtain ⟨ad, hA, hcs⟩ := hys.2.2 hmp
  subst hA
  have hnews : ∀ j u, (ys.map (Value.int .u8))[j]? = some u → (Lib.bytesWorld W e s).cell? (ad.add j) = some u := by
   intro j u hu
   rw [List.getElem?_map] at hu
   cases hj : ys[j]? with
   | none => rw [hj] at hu; cases hu
   | some y =>
    rw [hj] at hu
    injection hu with hu
    subst hu
    have hjl := (List.getElem?_eq_some_iff.1 hj).1
    rw [hcs j (by omega), List.getD_eq_getElem?_getD, hj]
    rfl
  by_cases hroom : s.size + m ≤ grownCap W s.size 0 e
  ·have hcell : ∀ j, j < grownCap W s.size 0 e → ((Lib.bytesWorld W e s).cell? ⟨W.heap.size, j, none⟩).isSome = true := by
    intro j hj
    rw [cell_of_row _ _ _ _ _ _ (Lib.bytesWorld_at_new W e s)]
    simp [Lib.bytesCells]
    have : s.size = s.data.size := rfl
    omega
   have hfr : ∀ j, j < grownCap W s.size 0 e → (Lib.bytesWorld W e s).frozen? ⟨W.heap.size, j, none⟩ = false := by
    intro j hj
    have hcs2 : (Lib.bytesCells W e s).size = grownCap W s.size 0 e := by
     simp [Lib.bytesCells]
     have : s.size = s.data.size := rfl
     omega
    simp only [World.frozen?, Lib.bytesWorld_at_new]
    rw [hcs2]
    simp
    omega
   have hr := run_append_room_cells (P := P) (w := Lib.bytesWorld W e s) t ty e i0 ht hi W.heap.size 0 s.size (grownCap W s.size 0 e) ad m c (ys.map (Value.int .u8)) (by rw [List.length_map, hm, hz1, Nat.mul_one]) hnews (fun u hu => by obtain ⟨x, _, rfl⟩ := List.mem_map.mp hu; rfl) hroom
    (fun j hj => by rw [List.length_map] at hj; rw [hz1]; exact hcell _ (by omega)) (fun j hj => by rw [List.length_map] at hj; rw [hz1]; exact hfr _ (by omega))
   rw [hz1, Nat.mul_one, Nat.zero_add] at hr
   obtain ⟨s1, s2, s3, s4⟩ := setCells_same W.heap.size (ys.map (Value.int .u8)) s.size (Lib.bytesWorld W e s)
   refine ⟨W.heap.size, _, _, hr, hroom, Nat.le_refl _, by rw [s4]; omega, ⟨s1.trans hB1.os, s2.trans hB1.tape, s3.trans hB1.output, by rw [s4]; omega, fun k hk => (setCells_far _ _ k (by omega)).trans (hB1.block k hk)⟩, ?_⟩
   rw [← hlen]
   refine told _ _ (fun j hj => ?_)
   by_cases hjs : j < s.size
   ·rw [World.cell?_setCells_out W.heap.size _ _ _ _ (fun _ _ => .inl hjs), gl j hjs]
    exact hold j hjs
   ·have := World.cell?_setCells_in W.heap.size (ys.map (Value.int .u8)) s.size (Lib.bytesWorld W e s) (fun j hj => by rw [List.length_map] at hj; exact hcell _ (by omega)) (j - s.size) (by rw [List.length_map]; omega)
    rw [show s.size + (j - s.size) = j by omega] at this
    rw [this, show (bytesOf s ++ ys).getD j 0 = ys.getD (j - s.size) 0 by rw [← gr (j - s.size), show s.size + (j - s.size) = j by omega]]
    rw [List.getElem_map, List.getD_eq_getElem?_getD, List.getElem?_eq_getElem (by omega)]
    rfl
  ·obtain ⟨v', w', hr, ho, hg⟩ := run_append_arg_grows (P := P) (w := Lib.bytesWorld W e s) t ty e i0 z 1 1 ht hi hz0 hz1 hz2 hz (by omega) ⟨W.heap.size, 0, none⟩ s.size (grownCap W s.size 0 e) ((bytesOf s).map (Value.int .u8)) (by rw [List.length_map, hbl, Nat.mul_one]) (fun j u hu => by
     rw [List.getElem?_map] at hu
     cases hj : (bytesOf s)[j]? with
     | none => rw [hj] at hu; cases hu
     | some y =>
      rw [hj] at hu
      injection hu with hu
      subst hu
      have hjl := (List.getElem?_eq_some_iff.1 hj).1
      rw [add_plain]
      show World.cell? _ _ = _
      rw [hold j (by omega), List.getD_eq_getElem?_getD, hj]
      rfl) ad m c (ys.map (Value.int .u8)) (by rw [List.length_map, hm, Nat.mul_one]) hnews (by omega) (by simp only [maxLen]; omega) (by omega)
   rcases ho.2 with ⟨_, hz⟩ | ⟨b, cap, cur, rfl, hbase, hbk, hnc, hcm, hcz, htake⟩
   ·omega
   refine ⟨b, cap, w', hr, hnc, by omega, (Array.getElem?_eq_some_iff.1 hbk).1, Below.grown hB1 hg (by omega) (fun k hk => by cases hk), ?_⟩
   rw [← hlen]
   refine told _ _ (fun j hj => ?_)
   rw [cell_of_row _ _ _ _ _ _ hbk]
   have hx : (cur.toList.take ((s.size + m) * 1))[j]? = ((bytesOf s).map (Value.int .u8) ++ ys.map (Value.int .u8))[j]? := by rw [htake]
   rw [Nat.mul_one, List.getElem?_take_of_lt hj, ← List.map_append, List.getElem?_map] at hx
   rw [← Array.getElem?_toList, hx, List.getD_eq_getElem?_getD, List.getElem?_eq_getElem (by omega)]
   rfl
theorem conv_event_ {P : Program} {ops : Array Oper} {rest : List Oper} {o : Oper} {a : Act} {Q : Exit → Act → World → Prop} (hgd : o.guard = none) (s_ x_ : Operand) (t e : TypeId) (z : Value)
  (ho : o.op = .call { callee := .builtin .append, args := #[s_, x_], argTypes := #[t, t] }) (ht : P.underlying t = some (.slice e)) (hinfo : (P.info? e).map (fun i => (i.zero, i.size, i.bytes)) = some (some z, 1, 1)) (hz : z.cells.size = 1)
  (W : World) (s : ByteArray) (A : Option Addr) (m c : Nat) (ys : List Int) (hs : a.eval s_ = .slice (some ⟨W.heap.size, 0, none⟩) s.size (grownCap W s.size 0 e)) (hx : a.eval x_ = .slice A m c)
  (HR : (Kd.int .u8).C (Lib.bytesWorld W e s) A m ys) (hl : s.size + m ≤ 140737488355327)
  (h : ∀ b c1 w1, (bytesOf s ++ ys).length ≤ c1 → W.heap.size ≤ b → b < w1.heap.size → Below W.heap.size W w1 → (∀ W' : World, W'.heap[b]? = w1.heap[b]? → (Kd.int .u8).C W' (some ⟨b, 0, none⟩) (bytesOf s ++ ys).length (bytesOf s ++ ys)) →
   wpList P ops Q rest (a.put o.dst (.slice (some ⟨b, 0, none⟩) (bytesOf s ++ ys).length c1)) w1) :
  wpList P ops Q (o :: rest) a (Lib.bytesWorld W e s) := by
 obtain ⟨b, c1, w1, hr, h1, h2, h3, h4, h5⟩ := conv_app_run_ (P := P) t o.type e z ht hinfo hz W s A m c ys HR hl
 refine wpList_plain hgd fun K hK => ?_
 unfold Oper.wp execOp
 simp only [ho, resolve, invoke, builtin, Sem.run_bind, Sem.run_pure, Result.andThen_ok, List.map_toArray, List.map_cons, List.map_nil, hs, hx, hr]
 exact hK _ _ (h b c1 w1 h1 h2 h3 h4 h5)
def spec_l3Chunk.f (k : Nat) (l0 : List Int) (a1 : ByteArray) (l2 : List Int) : Option (List Int) := if a1.size + l2.length < 140737480000000 ∧ l0.length + a1.size + l2.length < 140737488000000 then (spec_l3Four.f ((l2.length : Int) % 4294967296)).bind fun f => (spec_l3Crc.f k (bytesOf a1 ++ l2)).bind fun c => (spec_l3Four.f c).bind fun g => if f.length ≤ 100 ∧ g.length ≤ 100 then some (((l0 ++ f) ++ (bytesOf a1 ++ l2)) ++ g) else none else none
set_option maxHeartbeats 8000000 in
set_option maxRecDepth 100000 in
theorem spec_l3Chunk.calls (k : Nat) (P0_ : Nat → Prop) (u9000_ : Value) (l0 : List Int) (a1 : ByteArray) (A2 : Option Addr) (c2 : Nat) (l2 : List Int) (r : List Int) (w0 w : World) (hB : Below w0.heap.size w0 w) (ho0 : Kd.R (Kd.int .u8) 5 w w0.heap.size P0_ u9000_ l0) (hr2 : ∀ W_, Kept w W_ (fun k_ => P0_ k_) → Kd.C (Kd.int .u8) W_ A2 l2.length l2) (hc2 : l2.length ≤ c2) (h : spec_l3Chunk.f k l0 a1 l2 = some r) :
  Calls Try.prog 57 #[u9000_, .string a1, .slice A2 l2.length c2] w fun e w' => ∃ v0_ : Value, e = .returned (v0_) ∧ Kd.R (Kd.int .u8) 5 w' w0.heap.size (fun k_ => (P0_ k_ ∨ w.heap.size ≤ k_)) v0_ r ∧ Below w0.heap.size w0 w' ∧ Kept w w' (fun k_ => P0_ k_) := by
 unfold spec_l3Chunk.f at h
 by_cases hz : a1.size + l2.length < 140737480000000 ∧ l0.length + a1.size + l2.length < 140737488000000
 rotate_left
 ·rw [if_neg hz] at h; cases h
 rw [if_pos hz] at h
 obtain ⟨f, hf, h1⟩ := Option.bind_eq_some_iff.mp h
 clear h
 obtain ⟨c, hc, h2⟩ := Option.bind_eq_some_iff.mp h1
 clear h1
 obtain ⟨gg, hg, ha⟩ := Option.bind_eq_some_iff.mp h2
 clear h2
 by_cases hs : f.length ≤ 100 ∧ gg.length ≤ 100
 rotate_left
 ·rw [if_neg hs] at ha; cases ha
 rw [if_pos hs] at ha
 obtain rfl := Option.some.inj ha
 clear ha
 have HZ := Aside0.mk hz
 have HF := Aside0.mk hf
 have HG := Aside0.mk hg
 have HS := Aside0.mk hs
 have HB := Aside0.mk hB
 have HO := Aside0.mk (Kd.R_mono ho0 (ok' := (fun k_ => (P0_ k_ ∨ w.heap.size ≤ k_))) (fun k_ hk => .inl hk))
 have HR2 := Aside0.mk hr2
 have HSZ := Aside0.mk hB.size
 have kb := fun W => print_bytes (P := Try.prog) 9 22 5 Try.underlying9 Try.underlying22 Try.underlying5 a1 W
 obtain ⟨own, hown⟩ : ∃ own : List Int, own = bytesOf a1 ++ l2 := ⟨_, rfl⟩
 have NO := Aside0.mk hown
 have HOL : Aside0 (own.length ≤ 140737480000000) := ⟨by rw [hown, List.length_append, bytesOf_length]; omega⟩
 have HOL2 : Aside0 (l0.length + own.length ≤ 140737488000000) := ⟨by rw [hown, List.length_append, bytesOf_length]; omega⟩
 rw [← hown] at hc ⊢
 have HCR := Aside0.mk hc
 have hlen : (l2.length : Int) ≤ 140737480000000 := by omega
 clear hz hf hc hg hs hr2 hc2 hown ho0 hB
 go_enter Try.func57, Try.ntmps57
 go_wp2_with (first
  | (go_at_call 40; (with_reducible refine (spec_l3Four.calls _ f _ HF.out).mono ?_); rintro e w1 ⟨v1, rfl, q1, q2⟩; obtain ⟨A1', c1', rfl, _⟩ := Kd.R_reads q1; have R1 := Aside0.mk q1; have B1 := Aside0.mk q2; have K1 := Aside0.mk (Kept.of_below q2 (fun k_ => P0_ k_)); clear q1 q2)
  | ((with_reducible refine gate_builtin (b := .append) (xs := #[.tmp 8, .tmp 12]) rfl ?_); at_builtin; refine Kd.R_append_rows (Kd.int .u8) (w0 := w0) w0.heap.size rfl (.tmp 8) (.tmp 12) 22 5 (.int .u8 0) 1 rfl Try.underlying22 info5 rfl (by decide) (by omega) u9000_ l0 f _ _ _ (fun k_ => (P0_ k_ ∨ w.heap.size ≤ k_)) (fun _ => False) rfl rfl ?aO ?aR (fun _ _ h => h) (fun _ h => h.elim) ?aF ?aB ?aS ?aL ?_; (case aO => exact Kd.R_below HO.out B1.out); (case aR => exact (Kd.R_reads' R1.out).2.2); (case aF => exact fun k_ hk => .inr (Nat.le_trans B1.out.size hk)); (case aB => exact HB.out.trans (Below.mono B1.out HSZ.out)); (case aS => exact Nat.le_trans HSZ.out B1.out.size); (case aL => have h1_ := HS.out.1; have h2_ := HZ.out; omega); intro v2 w2 q1 q2 q3 q4; have R2 := Aside0.mk q1; have B2 := Aside0.mk q2; have K2 := Aside0.mk (Kept.of_grown q3 K1.out (fun k_ hk => HO.out.1 k_ hk)); clear q1 q2 q3 q4)
  | ((with_reducible refine gate_builtin (b := .append) (xs := #[.tmp 15, .tmp 16]) rfl ?_); at_builtin; refine conv_event_ rfl (.tmp 15) (.tmp 16) 22 5 (.int .u8 0) rfl Try.underlying22 info5 rfl w2 a1 _ _ _ l2 rfl rfl (HR2.out _ (K2.out.below (bytes_below (Below.refl _ _) (Nat.le_refl _) 5 a1))) (by have := HZ.out; omega) ?_; intro b cp w3 q1 q2 q3 q4 q5; rw [← NO.out] at q1 q5 ⊢; have OC := Aside0.mk q1; have OG := Aside0.mk q2; have OL := Aside0.mk q3; have OT := Aside0.mk q5; have K3 := Aside0.mk (K2.out.below q4); have R3 := Aside0.mk (Kd.R_below R2.out q4); have B3 := Aside0.mk (B2.out.trans (Below.mono q4 B2.out.size)); have L3 : Aside0 (∀ k, v2.ownBlock = some k → k ≠ b) := ⟨fun k hk e => by have := Kd.R_lt R2.out k hk; have := OG.out; omega⟩; clear q1 q2 q3 q4 q5)
  | ((with_reducible refine gate_builtin (b := .append) (xs := #[.tmp 18, .tmp 19]) rfl ?_); at_builtin; refine Kd.R_append_rows (Kd.int .u8) (w0 := w0) w0.heap.size rfl (.tmp 18) (.tmp 19) 22 5 (.int .u8 0) 1 rfl Try.underlying22 info5 rfl (by decide) (by omega) v2 (l0 ++ f) own _ _ _ (fun k_ => (P0_ k_ ∨ w.heap.size ≤ k_)) (fun _ => False) rfl rfl ?aO ?aR (fun _ _ h => h) (fun _ h => h.elim) ?aF ?aB ?aS ?aL ?_; (case aO => exact R3.out); (case aR => exact OT.out _ rfl); (case aF => exact fun k_ hk => .inr (Nat.le_trans K3.out.1 hk)); (case aB => exact B3.out); (case aS => exact B3.out.size); (case aL => have h1_ := HS.out.1; have h2_ := HOL2.out; rw [List.length_append]; omega); intro v4 w4 q1 q2 q3 q4; have R4 := Aside0.mk q1; have B4 := Aside0.mk q2; have K4 := Aside0.mk (Kept.of_grown q3 K3.out (fun k_ hk => R3.out.1 k_ hk)); have O4 : Aside0 (w4.heap[b]? = w3.heap[b]?) := ⟨q3.block b OL.out (fun e => L3.out b e.symm rfl)⟩; clear q1 q2 q3 q4)
  | (go_at_call 41; (with_reducible refine (spec_l3Crc.calls k _ _ own c _ (OT.out _ O4.out) OC.out HCR.out).mono ?_); rintro e w5 ⟨rfl, ⟨nd, rfl⟩⟩)
  | (go_at_call 40; (with_reducible refine (spec_l3Four.calls c gg _ HG.out).mono ?_); rintro e w6 ⟨v6, rfl, q1, q2⟩; obtain ⟨A6, c6, rfl, _⟩ := Kd.R_reads q1; have R6 := Aside0.mk q1; have B6 := Aside0.mk q2; have K6 := Aside0.mk ((Kept.drewN K4.out nd).below q2); clear q1 q2)
  | ((with_reducible refine gate_builtin (b := .append) (xs := #[.tmp 21, .tmp 24]) rfl ?_); at_builtin; refine Kd.R_append_rows (Kd.int .u8) (w0 := w0) w0.heap.size rfl (.tmp 21) (.tmp 24) 22 5 (.int .u8 0) 1 rfl Try.underlying22 info5 rfl (by decide) (by omega) v4 ((l0 ++ f) ++ own) gg _ _ _ (fun k_ => (P0_ k_ ∨ w.heap.size ≤ k_)) (fun _ => False) rfl rfl ?aO ?aR (fun _ _ h => h) (fun _ h => h.elim) ?aF ?aB ?aS ?aL ?_; (case aO => exact Kd.R_below (Kd.R_drewN R4.out nd) B6.out); (case aR => exact (Kd.R_reads' R6.out).2.2); (case aF => exact fun k_ hk => .inr (Nat.le_trans K6.out.1 hk)); (case aB => exact (pw_below_drewN B4.out nd).trans (Below.mono B6.out (pw_below_drewN B4.out nd).size)); (case aS => exact Nat.le_trans (pw_below_drewN B4.out nd).size B6.out.size); (case aL => have h1_ := HS.out.1; have h3_ := HS.out.2; have h2_ := HOL2.out; rw [List.length_append, List.length_append]; omega); intro v7 w7 q1 q2 q3 q4; have R7 := Aside0.mk q1; have B7 := Aside0.mk q2; have K7 := Aside0.mk (Kept.of_grown q3 K6.out (fun k_ hk => R4.out.1 k_ hk)); clear q1 q2 q3 q4))
 go_ret
 exact ⟨_, rfl, R7.out, B7.out, K7.out⟩

/-! ### spec_l2Fixed: function 47 -/
mutual
def spec_l2Fixed.l0 : Nat → List Int → Int → Option (List Int)
 | 0, _, _ => none
 | k + 1, x1, x2 => if x2 < 288 then (if x2 < 144 then (spec_l2Fixed.j1 k x1 x2 true) else (spec_l2Fixed.j1 k x1 x2 (decide (x2 ≥ 280)))) else (some x1)
def spec_l2Fixed.j1 : Nat → List Int → Int → Bool → Option (List Int)
 | 0, _, _, _ => none
 | k + 1, x1, x2, x10 => if x10 = true then (if x1.length < 17592186044416 then (spec_l2Fixed.l0 k (x1 ++ [8]) (wrap64 (x2 + 1))) else (none)) else (if x2 < 256 then (if x1.length < 17592186044416 then (spec_l2Fixed.l0 k (x1 ++ [9]) (wrap64 (x2 + 1))) else (none)) else (if x1.length < 17592186044416 then (spec_l2Fixed.l0 k (x1 ++ [7]) (wrap64 (x2 + 1))) else (none)))
end
def spec_l2Fixed.f (k : Nat)  : Option (List Int) := spec_l2Fixed.l0 k ([] : List Int) 0
set_option maxHeartbeats 8000000 in
set_option maxRecDepth 100000 in
theorem spec_l2Fixed.calls (k : Nat)  (r : List Int) (w : World) (h : spec_l2Fixed.f k  = some r) :
  Calls Try.prog 47 #[] w fun e w' => ∃ v0_ : Value, e = .returned (v0_) ∧ Kd.R (Kd.int .i64) 3 w' w.heap.size (fun _ => True) v0_ r ∧ Below w.heap.size w w' := by
 have HB := Aside0.mk (Below.refl w.heap.size w)
 have H : (spec_l2Fixed.l0 k ([] : List Int) 0) = some r := h
 clear h
 have H' := Aside0.mk H
 clear H
 go_enter Try.func47, Try.ntmps47
 go_wp2
 go_loopg [1, 2] k (fun kq v1 v2 w' => ∃ (x1_1 : List Int) (x2_1 : Int), v2 = .int .i64 x2_1 ∧ Aside0 (spec_l2Fixed.l0 kq x1_1 x2_1 = some r) ∧ Aside0 (kq ≤ k) ∧ Aside0 (Kd.R (Kd.int .i64) 3 w' w.heap.size (fun _ => True) v1 x1_1) ∧ Aside0 (Below w.heap.size w w'))
 case atStart => exact ⟨(([] : List Int)), (0), sv_, H', ⟨Nat.le_refl _⟩, ⟨by first | exact Kd.R_nil _ _ _ _ _ | exact Kd.N_nil _ _ _ _ _ | exact Kd.V_nil _ _ _ _ _ | exact Kd.Q_nil _ _ _ _ _ | exact Kd.S_nil _ _ _ _ _⟩, ⟨bel_⟩⟩
 case round =>
  clear H'
  obtain ⟨x1_1, x2_1, rfl, HA, HK1, HO_1, HB⟩ := hrel
  cases gk with
  | zero => exact absurd HA.out (by simp [spec_l2Fixed.l0])
  | succ k1 =>
   have H := HA.out
   clear HA
   simp only [spec_l2Fixed.l0] at H
   by_cases c1 : x2_1 < 288
   ·rw [if_pos c1] at H
    have c1b0 : decide (x2_1 < 288) = true := decide_eq_true c1
    clear c1
    have HC2 := Aside0.mk H
    clear H
    go_upto_region 6 with (fail)
    go_cut [10] (fun v10 wc => ∃ (kq : Nat) (x10_1 : Bool), v10 = .bool x10_1 ∧ Aside0 (spec_l2Fixed.j1 kq x1_1 x2_1 x10_1 = some r) ∧ Aside0 (kq ≤ k1) ∧ Aside0 (Kd.R (Kd.int .i64) 3 wc w.heap.size (fun _ => True) u1 x1_1) ∧ Aside0 (Below w.heap.size w wc))
    case first =>
     have H := HC2.out
     clear HC2
     by_cases c3 : x2_1 < 144
     ·rw [if_pos c3] at H
      have c3b0 : decide (x2_1 < 144) = true := decide_eq_true c3
      clear c3
      (first | rw [c3b0] | (simp only [i64_w, i32_w]; rw [c3b0]) | skip)
      have H' := Aside0.mk H
      clear H
      go_wp2
      go_meet
      case rel => exact ⟨_, (true), sv_, H', ⟨by have := HK1.out; first | omega | exact Nat.le_refl _⟩, ⟨by (with_reducible repeat (first | apply Kd.R_alloc | apply Kd.R_drewN | apply Kd.R_drew)); exact HO_1.out⟩, ⟨bel_⟩⟩
     ·rw [if_neg c3] at H
      have c3b0 : decide (x2_1 < 144) = false := decide_eq_false c3
      clear c3
      (first | rw [c3b0] | (simp only [i64_w, i32_w]; rw [c3b0]) | skip)
      have H' := Aside0.mk H
      clear H
      go_wp2
      go_meet
      case rel => exact ⟨_, (decide (x2_1 ≥ 280)), sv_, H', ⟨by have := HK1.out; first | omega | exact Nat.le_refl _⟩, ⟨by (with_reducible repeat (first | apply Kd.R_alloc | apply Kd.R_drewN | apply Kd.R_drew)); exact HO_1.out⟩, ⟨bel_⟩⟩
    case rest =>
     clear HC2
     (try clear c1);(try clear c1b0);(try clear p2);(try clear c3);(try clear c3b0)
     obtain ⟨kq, x10_1, rfl, HA, HJ1, HO_1, HB⟩ := hcut
     cases kq with
     | zero => exact absurd HA.out (by simp [spec_l2Fixed.j1])
     | succ kj1 =>
      have H := HA.out
      clear HA
      simp only [spec_l2Fixed.j1] at H
      by_cases c4 : x10_1 = true
      ·subst c4
       have H1 : (if x1_1.length < 17592186044416 then (spec_l2Fixed.l0 kj1 (x1_1 ++ [8]) (wrap64 (x2_1 + 1))) else (none)) = some r := by rw [if_pos rfl] at H; exact H
       clear H
       have H := H1
       clear H1
       by_cases c5 : x1_1.length < 17592186044416
       ·rw [if_pos c5] at H
        have LMc5 := Aside0.mk c5
        clear c5
        obtain ⟨y118, hy118⟩ : ∃ y_ : List Int, y_ = (x1_1 ++ [8]) := ⟨_, rfl⟩
        replace H : (spec_l2Fixed.l0 kj1 y118 (wrap64 (x2_1 + 1))) = some r := by first | (rw [hy118]; with_reducible exact H) | (have H2_ := (Option.bind_some _ _).symm.trans H; rw [hy118]; with_reducible exact H2_) | (have H2_ := (Option.bind_some _ _).symm.trans H; with_reducible exact H2_) | with_reducible exact H | (rw [hy118]; exact H) | exact H
        have Ny118 := Aside0.mk hy118
        clear hy118
        have H' := Aside0.mk H
        clear H
        go_wp2_with (first | ((with_reducible refine gate_builtin (b := .append) (xs := #[.tmp 17, .tmp 18]) rfl ?_); at_builtin; refine Kd.R_append (Kd.int .i64) (w0 := w) w.heap.size rfl (.tmp 17) (.tmp 18) 33 3 (.int .i64 0) 8 rfl Try.underlying33 info3 rfl (by decide) (by omega) u1 x1_1 8 [.int .i64 8] (fun _ => True) (fun _ => False) rfl rfl ?aP (fun _ hk => hk.elim) ?aF ?aO ?aB ?aS ?aL ?_; (case aP => exact rfl); (case aB => exact bel_); (case aF => exact (fun _ _ => trivial)); (case aO => exact (kdR_ HO_1.out)); (case aS => exact (below_size bel_)); (case aL => have := LMc5.out; omega); intro v119 w6 ho hb hg hat; rw [← Ny118.out] at ho; have n0_ := Aside0.mk (hb); have n1_ := Aside0.mk (ho); clear HB; clear HO_1; have HB := n0_; have HO120 := n1_; clear n0_ n1_; clear ho hb hg hat))
        go_roundg kj1
        case measure => have := HK1.out; have := HJ1.out; omega
        case rel => exact ⟨(y118), (wrap64 (x2_1 + 1)), sv_, H', ⟨by have := HK1.out; have := HJ1.out; omega⟩, ⟨by (with_reducible repeat (first | apply Kd.R_alloc | apply Kd.R_drewN | apply Kd.R_drew)); exact HO120.out⟩, ⟨bel_⟩⟩
       ·rw [if_neg c5] at H
        exact absurd H (by simp)
      ·replace c4 := Bool.eq_false_iff.mpr c4
       subst c4
       have H1 : (if x2_1 < 256 then (if x1_1.length < 17592186044416 then (spec_l2Fixed.l0 kj1 (x1_1 ++ [9]) (wrap64 (x2_1 + 1))) else (none)) else (if x1_1.length < 17592186044416 then (spec_l2Fixed.l0 kj1 (x1_1 ++ [7]) (wrap64 (x2_1 + 1))) else (none))) = some r := by rw [if_neg (show ¬ (false = true) by decide)] at H; exact H
       clear H
       have H := H1
       clear H1
       by_cases c7 : x2_1 < 256
       ·rw [if_pos c7] at H
        have c7b0 : decide (x2_1 < 256) = true := decide_eq_true c7
        clear c7
        by_cases c8 : x1_1.length < 17592186044416
        ·rw [if_pos c8] at H
         have LMc8 := Aside0.mk c8
         clear c8
         obtain ⟨y121, hy121⟩ : ∃ y_ : List Int, y_ = (x1_1 ++ [9]) := ⟨_, rfl⟩
         replace H : (spec_l2Fixed.l0 kj1 y121 (wrap64 (x2_1 + 1))) = some r := by first | (rw [hy121]; with_reducible exact H) | (have H2_ := (Option.bind_some _ _).symm.trans H; rw [hy121]; with_reducible exact H2_) | (have H2_ := (Option.bind_some _ _).symm.trans H; with_reducible exact H2_) | with_reducible exact H | (rw [hy121]; exact H) | exact H
         have Ny121 := Aside0.mk hy121
         clear hy121
         have H' := Aside0.mk H
         clear H
         go_wp2_with (first | ((with_reducible refine gate_builtin (b := .append) (xs := #[.tmp 23, .tmp 24]) rfl ?_); at_builtin; refine Kd.R_append (Kd.int .i64) (w0 := w) w.heap.size rfl (.tmp 23) (.tmp 24) 33 3 (.int .i64 0) 8 rfl Try.underlying33 info3 rfl (by decide) (by omega) u1 x1_1 9 [.int .i64 9] (fun _ => True) (fun _ => False) rfl rfl ?aP (fun _ hk => hk.elim) ?aF ?aO ?aB ?aS ?aL ?_; (case aP => exact rfl); (case aB => exact bel_); (case aF => exact (fun _ _ => trivial)); (case aO => exact (kdR_ HO_1.out)); (case aS => exact (below_size bel_)); (case aL => have := LMc8.out; omega); intro v122 w9 ho hb hg hat; rw [← Ny121.out] at ho; have n0_ := Aside0.mk (hb); have n1_ := Aside0.mk (ho); clear HB; clear HO_1; have HB := n0_; have HO123 := n1_; clear n0_ n1_; clear ho hb hg hat))
         go_roundg kj1
         case measure => have := HK1.out; have := HJ1.out; omega
         case rel => exact ⟨(y121), (wrap64 (x2_1 + 1)), sv_, H', ⟨by have := HK1.out; have := HJ1.out; omega⟩, ⟨by (with_reducible repeat (first | apply Kd.R_alloc | apply Kd.R_drewN | apply Kd.R_drew)); exact HO123.out⟩, ⟨bel_⟩⟩
        ·rw [if_neg c8] at H
         exact absurd H (by simp)
       ·rw [if_neg c7] at H
        have c7b0 : decide (x2_1 < 256) = false := decide_eq_false c7
        clear c7
        by_cases c10 : x1_1.length < 17592186044416
        ·rw [if_pos c10] at H
         have LMc10 := Aside0.mk c10
         clear c10
         obtain ⟨y124, hy124⟩ : ∃ y_ : List Int, y_ = (x1_1 ++ [7]) := ⟨_, rfl⟩
         replace H : (spec_l2Fixed.l0 kj1 y124 (wrap64 (x2_1 + 1))) = some r := by first | (rw [hy124]; with_reducible exact H) | (have H2_ := (Option.bind_some _ _).symm.trans H; rw [hy124]; with_reducible exact H2_) | (have H2_ := (Option.bind_some _ _).symm.trans H; with_reducible exact H2_) | with_reducible exact H | (rw [hy124]; exact H) | exact H
         have Ny124 := Aside0.mk hy124
         clear hy124
         have H' := Aside0.mk H
         clear H
         go_wp2_with (first | ((with_reducible refine gate_builtin (b := .append) (xs := #[.tmp 7, .tmp 8]) rfl ?_); at_builtin; refine Kd.R_append (Kd.int .i64) (w0 := w) w.heap.size rfl (.tmp 7) (.tmp 8) 33 3 (.int .i64 0) 8 rfl Try.underlying33 info3 rfl (by decide) (by omega) u1 x1_1 7 [.int .i64 7] (fun _ => True) (fun _ => False) rfl rfl ?aP (fun _ hk => hk.elim) ?aF ?aO ?aB ?aS ?aL ?_; (case aP => exact rfl); (case aB => exact bel_); (case aF => exact (fun _ _ => trivial)); (case aO => exact (kdR_ HO_1.out)); (case aS => exact (below_size bel_)); (case aL => have := LMc10.out; omega); intro v125 w11 ho hb hg hat; rw [← Ny124.out] at ho; have n0_ := Aside0.mk (hb); have n1_ := Aside0.mk (ho); clear HB; clear HO_1; have HB := n0_; have HO126 := n1_; clear n0_ n1_; clear ho hb hg hat))
         go_roundg kj1
         case measure => have := HK1.out; have := HJ1.out; omega
         case rel => exact ⟨(y124), (wrap64 (x2_1 + 1)), sv_, H', ⟨by have := HK1.out; have := HJ1.out; omega⟩, ⟨by (with_reducible repeat (first | apply Kd.R_alloc | apply Kd.R_drewN | apply Kd.R_drew)); exact HO126.out⟩, ⟨bel_⟩⟩
        ·rw [if_neg c10] at H
         exact absurd H (by simp)
   ·rw [if_neg c1] at H
    have c1b0 : decide (x2_1 < 288) = false := decide_eq_false c1
    clear c1
    obtain rfl := Option.some.inj H
    go_wp2
    go_ret
    exact ⟨_, er_, by (with_reducible repeat (first | apply Kd.R_alloc | apply Kd.R_drewN | apply Kd.R_drew)); exact HO_1.out, bel_⟩

/-! ### spec_l2Codes: function 48 -/
mutual
def spec_l2Codes.l0 : Nat → List Int → List Int → Int → Int → Option (List Int)
 | 0, _, _, _, _ => none
 | k + 1, x0, x3, x4, x5 => if x5 ≤ 15 then (spec_l2Codes.l1 k x0 x3 (wrap64 (x4 * 2)) x5 x0 (x0.length : Int) 0) else (some x3)
def spec_l2Codes.l1 : Nat → List Int → List Int → Int → Int → List Int → Int → Int → Option (List Int)
 | 0, _, _, _, _, _, _, _ => none
 | k + 1, x0, x3, x4, x5, x17, x18, x19 => if x19 < x18 then (if 0 ≤ x19 then (if x19 < (x17.length : Int) then (if (rd x17 x19) = x5 then (if x19 < (x3.length : Int) then (spec_l2Codes.l1 k x0 (x3.set (x19 : Int).toNat x4) (wrap64 (x4 + 1)) x5 x17 x18 (wrap64 (x19 + 1))) else (none)) else (spec_l2Codes.l1 k x0 x3 x4 x5 x17 x18 (wrap64 (x19 + 1)))) else (none)) else (none)) else (spec_l2Codes.l0 k x0 x3 x4 (wrap64 (x5 + 1)))
end
def spec_l2Codes.f (k : Nat) (l0 : List Int) : Option (List Int) := if 0 ≤ (l0.length : Int) then (if ((l0.length : Int) : Int).toNat ≤ 35184372088832 then (spec_l2Codes.l0 k l0 (List.replicate ((l0.length : Int) : Int).toNat 0) 0 1) else (none)) else (none)
set_option maxHeartbeats 8000000 in
set_option maxRecDepth 100000 in
theorem spec_l2Codes.calls (k : Nat) (A0 : Option Addr) (c0 : Nat) (l0 : List Int) (r : List Int) (w : World) (hr0 : Kd.C (Kd.int .i64) w A0 l0.length l0) (hc0 : l0.length ≤ c0) (h : spec_l2Codes.f k l0 = some r) :
  Calls Try.prog 48 #[.slice A0 l0.length c0] w fun e w' => ∃ v0_ : Value, e = .returned (v0_) ∧ Kd.R (Kd.int .i64) 3 w' w.heap.size (fun _ => True) v0_ r ∧ Below w.heap.size w w' := by
 have HR0 := Aside0.mk hr0
 have HC0 := Aside0.mk hc0
 clear hr0 hc0
 have HB := Aside0.mk (Below.refl w.heap.size w)
 have H : (if 0 ≤ (l0.length : Int) then (if ((l0.length : Int) : Int).toNat ≤ 35184372088832 then (spec_l2Codes.l0 k l0 (List.replicate ((l0.length : Int) : Int).toNat 0) 0 1) else (none)) else (none)) = some r := h
 clear h
 by_cases c2 : 0 ≤ (l0.length : Int)
 ·rw [if_pos c2] at H
  have c2b0 := eq_true c2
  have c2b1 : decide (0 ≤ (l0.length : Int)) = true := decide_eq_true c2
  clear c2
  by_cases c3 : ((l0.length : Int) : Int).toNat ≤ 35184372088832
  ·rw [if_pos c3] at H
   have c3b0 := eq_true c3
   have c3b1 : decide (((l0.length : Int) : Int).toNat ≤ 35184372088832) = true := decide_eq_true c3
   clear c3
   obtain ⟨y127, hy127⟩ : ∃ y_ : List Int, y_ = (List.replicate ((l0.length : Int) : Int).toNat 0) := ⟨_, rfl⟩
   replace H : (spec_l2Codes.l0 k l0 y127 0 1) = some r := by first | (rw [hy127]; with_reducible exact H) | (have H2_ := (Option.bind_some _ _).symm.trans H; rw [hy127]; with_reducible exact H2_) | (have H2_ := (Option.bind_some _ _).symm.trans H; with_reducible exact H2_) | with_reducible exact H | (rw [hy127]; exact H) | exact H
   have Ny127 := Aside0.mk hy127
   clear hy127
   have H' := Aside0.mk H
   clear H
   go_enter Try.func48, Try.ntmps48
   go_wp2_with (first | ((with_reducible refine gate_dst (N := 10) rfl ?_); refine Kd.R_make (Kd.int .i64) _ 3 rfl (N := 10) rfl 33 _ _ rfl (l0.length : Int) rfl rfl Try.underlying33 (.int .i64 0) 8 info3 rfl (by decide) (by omega) 0 (ok := fun _ => True) (okp := fun _ => True) rfl (fun _ hk => hk) trivial (of_decide_eq_true am_) (Nat.le_trans (Nat.mul_le_mul_right _ (of_decide_eq_true am_ : (l0.length : Int).toNat ≤ 35184372088832)) (by omega)) (Below.refl _ _) (Nat.le_refl _) ?_; intro v128 w4 ho5 hb hg_ hnew_; clear hg_ hnew_; (first | rw [← Ny127.out] at ho5 | (simp only [Int.reduceToNat] at ho5; rw [← Ny127.out] at ho5)); have n0_ := Aside0.mk (Kd.R_lower ho5 (below_size bel_)); have n1_ := Aside0.mk (below_step bel_ hb); clear HB; have HO129 := n0_; have HB := n1_; clear n0_ n1_; clear hb ho5))
   go_loopg [4, 5] k (fun kq v4 v5 w' => ∃ (x3_1 : List Int) (x4_1 : Int) (x5_1 : Int), v4 = .int .i64 x4_1 ∧ v5 = .int .i64 x5_1 ∧ Aside0 (spec_l2Codes.l0 kq l0 x3_1 x4_1 x5_1 = some r) ∧ Aside0 (kq ≤ k) ∧ Aside0 (Kd.R (Kd.int .i64) 3 w' w.heap.size (fun _ => True) v128 x3_1) ∧ Aside0 (Below w.heap.size w w'))
   case atStart => exact ⟨(y127), (0), (1), sv_, sv_, H', ⟨Nat.le_refl _⟩, ⟨by (with_reducible repeat (first | apply Kd.R_alloc | apply Kd.R_drewN | apply Kd.R_drew)); exact HO129.out⟩, ⟨bel_⟩⟩
   case round =>
    clear H'
    (try clear c2);(try clear c2b0 c2b1);(try clear p2);(try clear c3);(try clear c3b0 c3b1);(try clear c4)
    obtain ⟨x3_1, x4_1, x5_1, rfl, rfl, HA, HK1, HO_3, HB⟩ := hrel
    cases gk with
    | zero => exact absurd HA.out (by simp [spec_l2Codes.l0])
    | succ k1 =>
     have H := HA.out
     clear HA
     simp only [spec_l2Codes.l0] at H
     by_cases c6 : x5_1 ≤ 15
     ·rw [if_pos c6] at H
      have c6b0 : decide (x5_1 ≤ 15) = true := decide_eq_true c6
      clear c6
      have H' := Aside0.mk H
      clear H
      go_wp2
      go_loopg [4, 19] k1 (fun kq v4 v19 w' => ∃ (x3_2 : List Int) (x4_2 : Int) (x19_2 : Int), v4 = .int .i64 x4_2 ∧ v19 = .int .i64 x19_2 ∧ Aside0 (spec_l2Codes.l1 kq l0 x3_2 x4_2 x5_1 l0 (l0.length : Int) x19_2 = some r) ∧ Aside0 (kq ≤ k1) ∧ Aside0 (Kd.R (Kd.int .i64) 3 w' w.heap.size (fun _ => True) v128 x3_2) ∧ Aside0 (Below w.heap.size w w'))
      case atStart => exact ⟨(x3_1), (wrap64 (x4_1 * 2)), (0), sv_, sv_, H', ⟨Nat.le_refl _⟩, ⟨by (with_reducible repeat (first | apply Kd.R_alloc | apply Kd.R_drewN | apply Kd.R_drew)); exact HO_3.out⟩, ⟨bel_⟩⟩
      case round =>
       clear H'
       (try clear c2);(try clear c2b0 c2b1);(try clear p2);(try clear c3);(try clear c3b0 c3b1);(try clear c4);(try clear c6);(try clear c6b0);(try clear p6);(try clear p2)
       obtain ⟨x3_2, x4_2, x19_2, rfl, rfl, HA, HK2, HO_3, HB⟩ := hrel
       cases gk with
       | zero => exact absurd HA.out (by simp [spec_l2Codes.l1])
       | succ k2 =>
        have H := HA.out
        clear HA
        simp only [spec_l2Codes.l1] at H
        by_cases c7 : x19_2 < (l0.length : Int)
        ·rw [if_pos c7] at H
         have c7b0 : decide (x19_2 < (l0.length : Int)) = true := decide_eq_true c7
         clear c7
         by_cases c8 : 0 ≤ x19_2
         ·rw [if_pos c8] at H
          have c8b0 : decide (0 ≤ x19_2) = true := decide_eq_true c8
          clear c8
          by_cases c9 : x19_2 < (l0.length : Int)
          ·rw [if_pos c9] at H
           have c9b0 : decide (x19_2 < (l0.length : Int)) = true := decide_eq_true c9
           clear c9
           by_cases c10 : (rd l0 x19_2) = x5_1
           ·rw [if_pos c10] at H
            have c10b0 : ((rd l0 x19_2) == x5_1) = true := beq_iff_eq.mpr c10
            have c10b1 : ((rd l0 x19_2) != x5_1) = false := bne_eq_false_iff_eq.mpr c10
            clear c10
            by_cases c11 : x19_2 < (x3_2.length : Int)
            ·rw [if_pos c11] at H
             have c11b0 : decide (x19_2 < (x3_2.length : Int)) = true := decide_eq_true c11
             clear c11
             obtain ⟨y131, hy131⟩ : ∃ y_ : List Int, y_ = (x3_2.set (x19_2 : Int).toNat x4_2) := ⟨_, rfl⟩
             replace H : (spec_l2Codes.l1 k2 l0 y131 (wrap64 (x4_2 + 1)) x5_1 l0 (l0.length : Int) (wrap64 (x19_2 + 1))) = some r := by first | (rw [hy131]; with_reducible exact H) | (have H2_ := (Option.bind_some _ _).symm.trans H; rw [hy131]; with_reducible exact H2_) | (have H2_ := (Option.bind_some _ _).symm.trans H; with_reducible exact H2_) | with_reducible exact H | (rw [hy131]; exact H) | exact H
             have Ny131 := Aside0.mk hy131
             clear hy131
             have H' := Aside0.mk H
             clear H
             have p130 : 0 ≤ (x19_2 : Int) := of_decide_eq_true am_
             have q130 : x19_2 < (l0.length : Int) := of_decide_eq_true am_
             obtain ⟨ad130, e130, hx130_0⟩ := Kd.at_int HR0.out x19_2 p130 q130
             cases e130
             replace hx130_0 := pw_cell_below HB.out hx130_0
             replace p130 := eq_true p130
             replace q130 := eq_true q130
             have p12 : 0 ≤ (x19_2 : Int) := of_decide_eq_true am_
             have q12 : (x19_2 : Int) < ((x3_2.length : Int) : Int) := of_decide_eq_true am_
             obtain ⟨go12, co12, eo12, gb12, gl12, cl12, HG12⟩ := Kd.R_form HO_3.out (by omega)
             (first | cases eo12 | (injection eo12 with ea_ en_ ec_; (first | subst ea_ | (injection ea_ with ea_; subst ea_)); subst ec_; clear en_))
             have GB12 := Aside0.mk gb12
             have GG12 := Aside0.mk HG12
             clear gb12 gl12 HG12
             obtain ⟨hx12_0, hf12_0⟩ := Kd.R_celln 0 HO_3.out (x19_2 : Int) p12 q12
             replace p12 := eq_true p12
             replace q12 := eq_true q12
             have HP13 := Kd.R_putg HO_3.out (x19_2 : Int) x4_2
             go_wp2_with (first | ((with_reducible refine gate_store (t := 3) (p := 30) rfl ?_); refine store_event (t := 3) (p := 30) (v := ?vo_w14) (w1 := (wr.setCell ⟨go12, (x19_2 : Int).toNat, none⟩ (.int .i64 x4_2))) ?hg ?ho ?hn ?hr ?_; (case ho => rfl); (case hg => rfl); (case hn => rfl); (case hr => first | (go_simp; done) | (go_simp; rfl)); intro w14 hw; have hg : wr.grownBy w14 (some go12) := (by rw [hw]; exact HP13.2); have hp_ : Kd.R (Kd.int .i64) 3 w14 w.heap.size (fun _ => True) (.slice (some ⟨go12, 0, none⟩) x3_2.length co12) y131 := (by rw [hw, Ny131.out]; exact HP13.1); clear HP13; have n0_ := Aside0.mk (hp_); have n1_ := Aside0.mk ((by rw [hw]; exact below_set (HB.out) GB12.out : Below w.heap.size w w14)); clear HO_3; clear HB; have HO_3 := n0_; have HB := n1_; clear n0_ n1_; clear hg hw hp_))
             go_roundg k2
             case measure => have := HK1.out; have := HK2.out; omega
             case rel => exact ⟨(y131), (wrap64 (x4_2 + 1)), (wrap64 (x19_2 + 1)), sv_, sv_, H', ⟨by have := HK1.out; have := HK2.out; omega⟩, ⟨by (with_reducible repeat (first | apply Kd.R_alloc | apply Kd.R_drewN | apply Kd.R_drew)); exact HO_3.out⟩, ⟨bel_⟩⟩
            ·rw [if_neg c11] at H
             exact absurd H (by simp)
           ·rw [if_neg c10] at H
            have c10b0 : ((rd l0 x19_2) == x5_1) = false := beq_eq_false_iff_ne.mpr c10
            have c10b1 : ((rd l0 x19_2) != x5_1) = true := bne_iff_ne.mpr c10
            have H' := Aside0.mk H
            clear H
            have p130 : 0 ≤ (x19_2 : Int) := of_decide_eq_true am_
            have q130 : x19_2 < (l0.length : Int) := of_decide_eq_true am_
            obtain ⟨ad130, e130, hx130_0⟩ := Kd.at_int HR0.out x19_2 p130 q130
            cases e130
            replace hx130_0 := pw_cell_below HB.out hx130_0
            replace p130 := eq_true p130
            replace q130 := eq_true q130
            go_wp2
            go_roundg k2
            case measure => have := HK1.out; have := HK2.out; omega
            case rel => exact ⟨(x3_2), (x4_2), (wrap64 (x19_2 + 1)), sv_, sv_, H', ⟨by have := HK1.out; have := HK2.out; omega⟩, ⟨by (with_reducible repeat (first | apply Kd.R_alloc | apply Kd.R_drewN | apply Kd.R_drew)); exact HO_3.out⟩, ⟨bel_⟩⟩
          ·rw [if_neg c9] at H
           exact absurd H (by simp)
         ·rw [if_neg c8] at H
          exact absurd H (by simp)
        ·rw [if_neg c7] at H
         have c7b0 : decide (x19_2 < (l0.length : Int)) = false := decide_eq_false c7
         clear c7
         have H' := Aside0.mk H
         clear H
         go_wp2
         go_roundg k2
         case measure => have := HK1.out; have := HK2.out; omega
         case rel => exact ⟨(x3_2), (x4_2), (wrap64 (x5_1 + 1)), sv_, sv_, H', ⟨by have := HK1.out; have := HK2.out; omega⟩, ⟨by (with_reducible repeat (first | apply Kd.R_alloc | apply Kd.R_drewN | apply Kd.R_drew)); exact HO_3.out⟩, ⟨bel_⟩⟩
     ·rw [if_neg c6] at H
      have c6b0 : decide (x5_1 ≤ 15) = false := decide_eq_false c6
      clear c6
      obtain rfl := Option.some.inj H
      go_wp2
      go_ret
      exact ⟨_, er_, by (with_reducible repeat (first | apply Kd.R_alloc | apply Kd.R_drewN | apply Kd.R_drew)); exact HO_3.out, bel_⟩
  ·rw [if_neg c3] at H
   exact absurd H (by simp)
 ·rw [if_neg c2] at H
  exact absurd H (by simp)

/-! ### spec_l2Bits_bit: function 66 -/
-- EXT rounds=0 making=1 imports=Derived.BigQuiet,Derived.BigRegion
/-! ### spec_l2Bits_bit: function 66 -/
/-- bits that are laid down: a block of two cells, and the row. -/
def W8 (t : TypeId) (w : World) (base g : Nat) (out : List Int) (many : Int) : Prop := ∃ v, w.heap[g]? = some (.cells #[v, .int .i64 many] t (0, 0)) ∧ base ≤ g ∧ Kd.R (Kd.int .u8) 5 w base (fun _ => True) v out
/-- what no bit's laying down touches: blocks of other types. -/
def Kept8 (w W : World) (g : Nat) : Prop := w.heap.size ≤ W.heap.size ∧ ∀ i, i < w.heap.size → i ≠ g → (∀ cs, w.heap[i]? ≠ some (.cells cs 5 (0, 0))) → W.heap[i]? = w.heap[i]?
theorem Kept8.refl (w : World) (g : Nat) : Kept8 w w g := ⟨Nat.le_refl _, fun _ _ _ _ => rfl⟩
theorem Kept8.trans {w W V : World} {g : Nat} (h : Kept8 w W g) (k : Kept8 W V g) : Kept8 w V g :=
 ⟨Nat.le_trans h.1 k.1, fun i hi hg hn => by
  have e := h.2 i hi hg hn
  exact (k.2 i (Nat.lt_of_lt_of_le hi h.1) hg (fun cs => by rw [e]; exact hn cs)).trans e⟩
theorem Kept8.of_below {w W : World} {g : Nat} (h : Below w.heap.size w W) : Kept8 w W g := ⟨h.size, fun i hi _ _ => h.block i hi⟩
theorem Kept8.drew {w W : World} {g : Nat} (h : Kept8 w W g) : Kept8 w W.drew g := h
theorem Kept8.drewN {w W : World} {g : Nat} (h : Kept8 w W g) (n : Nat) : Kept8 w (W.drewN n) g := h
theorem Kept8.setG {w W : World} {g j : Nat} (h : Kept8 w W g) (u : Value) : Kept8 w (W.setCell ⟨g, j, none⟩ u) g :=
 ⟨by simpa [World.setCell] using h.1, fun i hi hg hn => (Below.heap_setCell W ⟨g, j, none⟩ u i hg).trans (h.2 i hi hg hn)⟩
theorem Kept8.setRow {w W : World} {g b j : Nat} {cs : Array Value} (h : Kept8 w W g) (hb : W.heap[b]? = some (.cells cs 5 (0, 0))) (u : Value) : Kept8 w (W.setCell ⟨b, j, none⟩ u) g :=
 ⟨by simpa [World.setCell] using h.1, fun i hi hg hn => by
  have e := h.2 i hi hg hn
  refine (Below.heap_setCell W ⟨b, j, none⟩ u i (fun hib => ?_)).trans e
  subst hib
  exact hn cs (by rw [← e]; exact hb)⟩
theorem Kept8.grown {w W V : World} {g : Nat} {row : Option Nat} (h : Kept8 w W g) (hg : W.grownBy V row) (hr : ∀ k, row = some k → ∃ cs, W.heap[k]? = some (.cells cs 5 (0, 0))) : Kept8 w V g :=
 h.trans ⟨hg.size, fun i hi _ hn => hg.block i hi (fun e => by obtain ⟨cs, hc⟩ := hr i e.symm; exact hn cs hc)⟩
theorem sl8_ {w : World} {base : Nat} {ok : Nat → Prop} {v : Value} {xs : List Int} (h : Kd.R (Kd.int .u8) 5 w base ok v xs) (hn : 0 < xs.length) : ∃ b cap, v = .slice (some ⟨b, 0, none⟩) xs.length cap ∧ xs.length ≤ cap := by
 rcases (Kd.own_of_R h).2 with ⟨_, hz⟩ | ⟨b, cap, cur, e, _, _, hc, _⟩
 ·omega
 ·exact ⟨b, cap, e, hc⟩
theorem W8.drew {t : TypeId} {w : World} {base g : Nat} {o : List Int} {m : Int} (h : W8 t w base g o m) : W8 t w.drew base g o m := by
 obtain ⟨v, h1, h2, h3⟩ := h
 exact ⟨v, h1, h2, Kd.R_drew h3⟩
theorem W8.drewN {t : TypeId} {w : World} {base g : Nat} {o : List Int} {m : Int} (h : W8 t w base g o m) (n : Nat) : W8 t (w.drewN n) base g o m := by
 obtain ⟨v, h1, h2, h3⟩ := h
 exact ⟨v, h1, h2, Kd.R_drewN h3 n⟩
def bitO (out : List Int) (many : Int) : List Int := if many % 8 = 0 then out ++ [0] else out
def spec_l2Bits_bit.f (out : List Int) (many x : Int) : Option (List Int × Int) :=
 if 0 ≤ many ∧ out.length < 140737488355327 ∧ (many % 8 = 0 ∨ 0 < out.length) then some ((bitO out many).set ((bitO out many).length - 1) (bits .or .u8 (rdOf 0 (bitO out many) (((bitO out many).length : Int) - 1)) (wrap64 (x * 2 ^ (many % 8).toNat) % 256)), wrap64 (many + 1)) else none
set_option maxHeartbeats 8000000 in
set_option maxRecDepth 100000 in
theorem spec_l2Bits_bit.calls (out : List Int) (many x : Int) (out' : List Int) (many' : Int) (base g : Nat) (w0 w : World) (hbase : base ≤ w.heap.size) (hB : Below base w0 w) (hW : W8 67 w base g out many) (h : spec_l2Bits_bit.f out many x = some (out', many')) :
  Calls Try.prog 66 #[.pointer (some ⟨g, 0, none⟩), .int .i64 x] w fun e w' => e = .returned (.tuple #[]) ∧ Below base w0 w' ∧ W8 67 w' base g out' many' ∧ Kept8 w w' g := by
 obtain ⟨v, hb, hge, hR⟩ := hW
 unfold spec_l2Bits_bit.f at h
 by_cases hc : 0 ≤ many ∧ out.length < 140737488355327 ∧ (many % 8 = 0 ∨ 0 < out.length)
 rotate_left
 ·rw [if_neg hc] at h; cases h
 rw [if_pos hc] at h
 obtain ⟨hm, hl0, hz⟩ := hc
 obtain ⟨rfl, rfl⟩ := Prod.mk.inj (Option.some.inj h)
 clear h
 have HBK := Aside0.mk hb
 have HR := Aside0.mk hR
 have HB := Aside0.mk hB
 have HSZ := Aside0.mk hbase
 have HL0 := Aside0.mk hl0
 have a0_ : w.cell? ⟨g, 0, none⟩ = some v := (blk_cell hb 0).trans rfl
 have a1_ : w.cell? ⟨g, 1, none⟩ = some (.int .i64 many) := (blk_cell hb 1).trans rfl
 have f0_ := blk_frozen hb 0
 have f1_ := blk_frozen hb 1
 by_cases h8 : many % 8 = 0
 ·have h8b : ((many % 8 : Int) == 0) = true := beq_iff_eq.mpr h8
  have eo : bitO out many = out ++ [0] := if_pos h8
  obtain ⟨o, ho⟩ : ∃ o : List Int, o = out ++ [0] := ⟨_, rfl⟩
  rw [eo, ← ho]
  have NO := Aside0.mk ho
  have HN : Aside0 (0 < o.length) := ⟨by rw [ho, List.length_append]; simp⟩
  have HL : Aside0 (o.length ≤ 140737488355328) := ⟨by have := HL0.out; rw [ho, List.length_append, List.length_singleton]; omega⟩
  clear hb hR hB h8 hz eo ho
  go_enter Try.func66, Try.ntmps66
  go_upto_region 2 with (first | ((with_reducible refine gate_builtin (b := .append) (xs := #[.tmp 14, .tmp 15]) rfl ?_); at_builtin; refine Kd.R_append (Kd.int .u8) (w0 := w0) base rfl (.tmp 14) (.tmp 15) 22 5 (.int .u8 0) 1 rfl Try.underlying22 info5 rfl (by decide) (by omega) v out 0 [.int .u8 0] (fun _ => True) (fun _ => False) rfl rfl ?aP (fun _ hk => hk.elim) ?aF ?aO ?aB ?aS ?aL ?_; (case aP => exact rfl); (case aF => exact (fun _ _ => trivial)); (case aO => exact HR.out); (case aB => exact HB.out); (case aS => exact HSZ.out); (case aL => have := HL0.out; omega); intro v1 w6 ho hb6 hg6 hat; rw [← NO.out] at ho; obtain ⟨b, cap, rfl, hle⟩ := sl8_ ho HN.out; have BK6 : w6.heap[g]? = some (.cells #[v, .int .i64 many] 67 (0, 0)) := blk_grown HBK.out hg6 (Kd.R_ne HR.out HBK.out (by decide)); have c6_ : w6.cell? ⟨g, 0, none⟩ = some v := (blk_cell BK6 0).trans rfl; have f6_ := blk_frozen BK6 0; have n0_ := Aside0.mk BK6; have n1_ := Aside0.mk ho; have n2_ := Aside0.mk hb6; have n3_ := Aside0.mk (Kept8.grown (Kept8.refl w g) hg6 (Kd.R_typed HR.out)); clear BK6 ho hb6 hg6 hat))
  obtain ⟨W, hW⟩ : ∃ W : World, W = w6.setCell ⟨g, 0, none⟩ (.slice (some ⟨b, 0, none⟩) o.length cap) := ⟨_, rfl⟩
  have BK : Aside0 (W.heap[g]? = some (.cells #[.slice (some ⟨b, 0, none⟩) o.length cap, .int .i64 many] 67 (0, 0))) := ⟨by rw [hW]; exact blk_put n0_.out 0 _ rfl⟩
  have RR : Aside0 (Kd.R (Kd.int .u8) 5 W base (fun _ => True) (.slice (some ⟨b, 0, none⟩) o.length cap) o) := ⟨by
   rw [hW]
   exact Kd.R_mono (Kd.R_far (Kd.R_types n1_.out n0_.out (by decide)) (p := ⟨g, 0, none⟩) (fun k hk => hk.2) _) (fun _ _ => trivial)⟩
  have KK : Aside0 (Kept8 w W g) := ⟨by rw [hW]; exact Kept8.setG n3_.out _⟩
  have BB : Aside0 (Below base w0 W) := ⟨by rw [hW]; exact Below.setCell n2_.out hge _⟩
  rw [← hW]
  clear hW n0_ n1_ n2_ n3_ c6_ f6_ a0_ a1_ f0_ f1_
  obtain ⟨cl, fz⟩ := Kd.R_celln 0 RR.out ((o.length : Int) - 1) (by have := HN.out; omega) (by omega)
  have ei : ((o.length : Int) - 1).toNat = o.length - 1 := by omega
  rw [ei] at cl fz
  clear ei
  have hpos := HN.out
  have hlim := HL.out
  have b0_ : W.cell? ⟨g, 0, none⟩ = some (.slice (some ⟨b, 0, none⟩) o.length cap) := (blk_cell BK.out 0).trans rfl
  have b1_ : W.cell? ⟨g, 1, none⟩ = some (.int .i64 many) := (blk_cell BK.out 1).trans rfl
  have g1_ := blk_frozen BK.out 1
  have hbg : b ≠ g := fun e => (Kd.R_ne RR.out BK.out (by decide)) (by rw [e]; rfl)
  have P2 := Kd.R_putn RR.out ((o.length : Int) - 1) (bits .or .u8 (rdOf 0 o ((o.length : Int) - 1)) (wrap64 (x * 2 ^ (many % 8).toNat) % 256))
  have ei : ((o.length : Int) - 1).toNat = o.length - 1 := by omega
  rw [ei] at P2
  obtain ⟨cb, hcb⟩ := Kd.R_typed RR.out b rfl
  have hgb : base ≤ b := (Kd.R_base RR.out) b rfl
  have X0 := Aside0.mk (show W.heap[b]? = some (.cells cb 5 (0, 0)) from hcb)
  have X1 := Aside0.mk P2
  clear P2 ei hcb
  go_region
  obtain ⟨V, hV⟩ : ∃ V : World, V = (W.setCell ⟨b, o.length - 1, none⟩ (.int .u8 (bits .or .u8 (rdOf 0 o ((o.length : Int) - 1)) (wrap64 (x * 2 ^ (many % 8).toNat) % 256)))) := ⟨_, rfl⟩
  have BV : V.heap[g]? = some (.cells #[.slice (some ⟨b, 0, none⟩) o.length cap, .int .i64 many] 67 (0, 0)) := by rw [hV]; exact blk_far BK.out (fun e => hbg e.symm) _
  have RV : Kd.R (Kd.int .u8) 5 V base (fun _ => True) (.slice (some ⟨b, 0, none⟩) o.length cap) (o.set (o.length - 1) (bits .or .u8 (rdOf 0 o ((o.length : Int) - 1)) (wrap64 (x * 2 ^ (many % 8).toNat) % 256))) := by rw [hV]; exact X1.out
  have KV : Kept8 w V g := by rw [hV]; exact Kept8.setRow KK.out X0.out _
  have BBV : Below base w0 V := by rw [hV]; exact Below.setCell BB.out hgb _
  rw [← hV]
  have v1_ : V.drew.cell? ⟨g, 1, none⟩ = some (.int .i64 many) := (blk_cell (blk_drew BV) 1).trans rfl
  have vg1_ := blk_frozen (blk_drew BV) 1
  have BV' := Aside0.mk BV
  have RV' := Aside0.mk RV
  clear BV RV b0_ b1_ cl fz g1_ hV
  go_wp2
  go_end0
  have B2 := blk_put (blk_drew BV'.out) 1 (.int .i64 (wrap64 (many + 1))) rfl
  have R1 := Kd.R_types (Kd.R_drew RV'.out) (blk_drew BV'.out) (by decide)
  refine ⟨rfl, Below.setCell BBV.drew hge _, ?_, Kept8.setG KV.drew _⟩
  refine ⟨_, B2, hge, ?_⟩
  have R2 := Kd.R_mono (Kd.R_far R1 (p := ⟨g, 1, none⟩) (fun k hk => hk.2) (.int .i64 (wrap64 (many + 1)))) (ok' := fun _ => True) (fun _ _ => trivial)
  exact R2
 ·have h8b : ((many % 8 : Int) == 0) = false := beq_eq_false_iff_ne.mpr h8
  have eo : bitO out many = out := if_neg h8
  rw [eo]
  have hn : 0 < out.length := by rcases hz with hz | hz; exact absurd hz h8; exact hz
  obtain ⟨b, cap, rfl, hle⟩ := sl8_ hR hn
  have BK := HBK
  have RR := HR
  have KK := Aside0.mk (Kept8.refl w g)
  have BB := HB
  have HN := Aside0.mk hn
  have HL : Aside0 (out.length ≤ 140737488355328) := ⟨by omega⟩
  clear hb hR hB h8 hz eo hn
  go_enter Try.func66, Try.ntmps66
  go_upto_region 2 with (fail)
  clear a0_ a1_ f0_ f1_
  obtain ⟨cl, fz⟩ := Kd.R_celln 0 RR.out ((out.length : Int) - 1) (by have := HN.out; omega) (by omega)
  have ei : ((out.length : Int) - 1).toNat = out.length - 1 := by omega
  rw [ei] at cl fz
  clear ei
  have hpos := HN.out
  have hlim := HL.out
  have b0_ : w.cell? ⟨g, 0, none⟩ = some (.slice (some ⟨b, 0, none⟩) out.length cap) := (blk_cell BK.out 0).trans rfl
  have b1_ : w.cell? ⟨g, 1, none⟩ = some (.int .i64 many) := (blk_cell BK.out 1).trans rfl
  have g1_ := blk_frozen BK.out 1
  have hbg : b ≠ g := fun e => (Kd.R_ne RR.out BK.out (by decide)) (by rw [e]; rfl)
  have P2 := Kd.R_putn RR.out ((out.length : Int) - 1) (bits .or .u8 (rdOf 0 out ((out.length : Int) - 1)) (wrap64 (x * 2 ^ (many % 8).toNat) % 256))
  have ei : ((out.length : Int) - 1).toNat = out.length - 1 := by omega
  rw [ei] at P2
  obtain ⟨cb, hcb⟩ := Kd.R_typed RR.out b rfl
  have hgb : base ≤ b := (Kd.R_base RR.out) b rfl
  have X0 := Aside0.mk (show w.heap[b]? = some (.cells cb 5 (0, 0)) from hcb)
  have X1 := Aside0.mk P2
  clear P2 ei hcb
  go_region
  obtain ⟨V, hV⟩ : ∃ V : World, V = (w.setCell ⟨b, out.length - 1, none⟩ (.int .u8 (bits .or .u8 (rdOf 0 out ((out.length : Int) - 1)) (wrap64 (x * 2 ^ (many % 8).toNat) % 256)))) := ⟨_, rfl⟩
  have BV : V.heap[g]? = some (.cells #[.slice (some ⟨b, 0, none⟩) out.length cap, .int .i64 many] 67 (0, 0)) := by rw [hV]; exact blk_far BK.out (fun e => hbg e.symm) _
  have RV : Kd.R (Kd.int .u8) 5 V base (fun _ => True) (.slice (some ⟨b, 0, none⟩) out.length cap) (out.set (out.length - 1) (bits .or .u8 (rdOf 0 out ((out.length : Int) - 1)) (wrap64 (x * 2 ^ (many % 8).toNat) % 256))) := by rw [hV]; exact X1.out
  have KV : Kept8 w V g := by rw [hV]; exact Kept8.setRow KK.out X0.out _
  have BBV : Below base w0 V := by rw [hV]; exact Below.setCell BB.out hgb _
  rw [← hV]
  have v1_ : V.drew.cell? ⟨g, 1, none⟩ = some (.int .i64 many) := (blk_cell (blk_drew BV) 1).trans rfl
  have vg1_ := blk_frozen (blk_drew BV) 1
  have BV' := Aside0.mk BV
  have RV' := Aside0.mk RV
  clear BV RV b0_ b1_ cl fz g1_ hV
  go_wp2
  go_end0
  have B2 := blk_put (blk_drew BV'.out) 1 (.int .i64 (wrap64 (many + 1))) rfl
  have R1 := Kd.R_types (Kd.R_drew RV'.out) (blk_drew BV'.out) (by decide)
  refine ⟨rfl, Below.setCell BBV.drew hge _, ?_, Kept8.setG KV.drew _⟩
  refine ⟨_, B2, hge, ?_⟩
  have R2 := Kd.R_mono (Kd.R_far R1 (p := ⟨g, 1, none⟩) (fun k hk => hk.2) (.int .i64 (wrap64 (many + 1)))) (ok' := fun _ => True) (fun _ _ => trivial)
  exact R2

/-! ### spec_l2Bits_number: function 49 -/
def spec_l2Bits_numberG (n : Int) : Nat → Nat → List Int → Int → Option (List Int × Int)
 | 0, _, o, m => some (o, m)
 | r + 1, k, o, m => (spec_l2Bits_bit.f o m (bits .and .i64 (n / 2 ^ k) 1)).bind fun p => spec_l2Bits_numberG n r (k + 1) p.1 p.2
def spec_l2Bits_number.f (out : List Int) (many n cnt : Int) : Option (List Int × Int) := if 0 ≤ cnt ∧ cnt ≤ 62 then spec_l2Bits_numberG n cnt.toNat 0 out many else none
set_option maxHeartbeats 8000000 in
set_option maxRecDepth 100000 in
theorem spec_l2Bits_number.calls (out : List Int) (many n cnt : Int) (out' : List Int) (many' : Int) (base g : Nat) (w0 w : World) (hbase : base ≤ w.heap.size) (hB : Below base w0 w) (hW : W8 67 w base g out many) (h : spec_l2Bits_number.f out many n cnt = some (out', many')) :
  Calls Try.prog 49 #[.pointer (some ⟨g, 0, none⟩), .int .i64 n, .int .i64 cnt] w fun e w' => e = .returned (.tuple #[]) ∧ Below base w0 w' ∧ W8 67 w' base g out' many' ∧ Kept8 w w' g := by
 unfold spec_l2Bits_number.f at h
 by_cases hc : 0 ≤ cnt ∧ cnt ≤ 62
 rotate_left
 ·rw [if_neg hc] at h; cases h
 rw [if_pos hc] at h
 have HB := Aside0.mk hB
 have HW := Aside0.mk hW
 have HH := Aside0.mk h
 have HC := Aside0.mk hc
 have HSZ := Aside0.mk hbase
 have hc0 := hc.1
 have hc62 := hc.2
 clear hB hW h hc hbase
 go_enter Try.func49, Try.ntmps49
 go_wp2
 go_loopg [6] cnt.toNat (fun kq v w' => ∃ (k : Nat) (o : List Int) (m : Int), v = .int .i64 (k : Int) ∧ Aside0 (spec_l2Bits_numberG n kq k o m = some (out', many')) ∧ Aside0 (kq + k = cnt.toNat) ∧ Aside0 (base ≤ w'.heap.size) ∧ Aside0 (Below base w0 w') ∧ Aside0 (W8 67 w' base g o m) ∧ Aside0 (Kept8 w w' g))
 case atStart => exact ⟨0, out, many, rfl, HH, ⟨rfl⟩, HSZ, HB, HW, ⟨Kept8.refl w g⟩⟩
 case round =>
  obtain ⟨k, o, m, rfl, HA, HI, HS, HB2, HW2, HK⟩ := hrel
  cases gk with
  | zero =>
   have H := HA.out
   simp only [spec_l2Bits_numberG, Option.some.injEq, Prod.mk.injEq] at H
   obtain ⟨rfl, rfl⟩ := H
   have hk : decide ((k : Int) < cnt) = false := decide_eq_false (by have := HI.out; omega)
   clear HA HI
   go_wp2
   go_end0
   exact ⟨rfl, HB2.out, HW2.out, HK.out⟩
  | succ r =>
   have H := HA.out
   clear HA
   simp only [spec_l2Bits_numberG] at H
   obtain ⟨⟨o2, m2⟩, hd, H⟩ := Option.bind_eq_some_iff.mp H
   have HD := Aside0.mk hd
   have H' := Aside0.mk H
   have hk : decide ((k : Int) < cnt) = true := decide_eq_true (by have := HI.out; omega)
   have hk2 : (k : Int) < 64 := by have := HI.out; omega
   have hk3 : (k : Int) < cnt := by have := HI.out; omega
   clear hd H
   go_wp2_with (go_at_call 66; (with_reducible refine (spec_l2Bits_bit.calls o m _ o2 m2 base g w0 _ HS.out HB2.out HW2.out HD.out).mono ?_); rintro e w2 ⟨rfl, hb_, hw_, hk_⟩; have X1 := Aside0.mk hb_; have X2 := Aside0.mk hw_; have X3 := Aside0.mk (Kept8.trans HK.out hk_); have X4 := Aside0.mk (Nat.le_trans HS.out hk_.1); clear hb_ hw_ hk_)
   go_roundg r
   case measure => omega
   case rel => exact ⟨k + 1, o2, m2, by first | rfl | (rw [Int.natCast_add]; rfl) | (simp; done), H', ⟨by have := HI.out; omega⟩, X4, X1, X2, X3⟩

end Go.Proofs.Ytfogfjmkngoegaa.PFnExactEncodePng
