-- Laid by a program of this session out of the translation (its own run of the print). Lean checks it.
import Derived.Test.YthfbpmjcjiihnaaGreatDoorPFnExactMarksTextx0
namespace Go.Proofs.YthfbpmjcjiihnaaGreatDoor.PFnExactMarksText
open Go.RowKit Go.Proofs.YthfbpmjcjiihnaaGreatDoorW.PrintWords Go.Proofs.YthfbpmjcjiihnaaGreatDoorW.PrintLast Go.Proofs.YthfbpmjcjiihnaaGreatDoorW.PrintMore
attribute [local go_sem] max2_int min2_int max_two min_two max_three min_three max_four min_four   -- for this text's walks alone
set_option linter.unusedVariables false
set_option linter.unusedSimpArgs false

/-! ### impl_escaped: function 29 -/
set_option maxRecDepth 100000
set_option maxHeartbeats 4000000
theorem disable (w : World) : (callFunc 67 #[]).run Tryz.prog w = .ok (.value (.tuple #[])) w := run_call_mark0 Tryz.func67 (by kernel_rfl) (by kernel_rfl) (by kernel_rfl) .disable (by kernel_rfl) w
theorem enable (w : World) : (callFunc 69 #[]).run Tryz.prog w = .ok (.value (.tuple #[])) w := run_call_mark0 Tryz.func69 (by kernel_rfl) (by kernel_rfl) (by kernel_rfl) .enable (by kernel_rfl) w
theorem acquire (a : Addr) (w : World) : (callFunc 70 #[.pointer (some a)]).run Tryz.prog w = .ok (.value (.tuple #[])) w := run_call_marked Tryz.func70 (by kernel_rfl) (by kernel_rfl) (by kernel_rfl) .acquire (by kernel_rfl) a w
theorem releaseMerge (a : Addr) (w : World) : (callFunc 72 #[.pointer (some a)]).run Tryz.prog w = .ok (.value (.tuple #[])) w := run_call_marked Tryz.func72 (by kernel_rfl) (by kernel_rfl) (by kernel_rfl) .releaseMerge (by kernel_rfl) a w
theorem store_deferred (a : Addr) (x : Value) (u : FrameMode) (w : World) (hc : w.cell? a = some x) (hz : w.frozen? a = false) :
  CallsD Tryz.prog 58 #[.pointer (some a), .bool true] u w fun e u' w' => u' = u ∧ (e = .returned (.tuple #[]) ∧ w' = w.drew.setCell a (.int .u32 1)) := by
 have hc' : w.drew.cell? a = some x := by go_simp
 have hz' : w.drew.frozen? a = false := by go_simp
 have hst := run_call_store (P := Tryz.prog) Tryz.func63 (by kernel_rfl) (by kernel_rfl) (by kernel_rfl) (by kernel_rfl) (k := .u32) (y := 1) hc' hz'
 go_enter_d Tryz.func58, Tryz.ntmps58
 go_wp2
 go_region_calls
 all_goals (go_end0; exact ⟨rfl, rfl⟩)
theorem unlock_deferred (a : Addr) (u : FrameMode) (w : World) (hc : w.cell? a = some (.int .i32 1)) (hz : w.frozen? a = false) :
  CallsD Tryz.prog 57 #[.pointer (some a)] u w fun e u' w' => u' = u ∧ (e = .returned (.tuple #[]) ∧ w' = w.setCell a (.int .i32 0)) := by
 have hd := disable
 have he := enable
 have hr := releaseMerge
 have hadd := run_call_add (P := Tryz.prog) Tryz.func73 (by kernel_rfl) (by kernel_rfl) (by kernel_rfl) .i32 (by kernel_rfl) (y := -1) (s := 0) hc hz (by simp [go_sem]; rfl)
 have hcv := run_convert_to_unsafe (P := Tryz.prog) (src := 124) (dst := 128) Tryz.underlying124 Tryz.underlying128 (by kernel_rfl) hc
 go_enter_d Tryz.func57, Tryz.ntmps57
 go_wp2
 go_end0
 go_wp2
 go_end0
 exact ⟨rfl, rfl⟩
theorem lock_free (a : Addr) (w : World) (hc : w.cell? a = some (.int .i32 0)) (hz : w.frozen? a = false) :
  Calls Tryz.prog 56 #[.pointer (some a)] w fun e w' => e = .returned (.tuple #[]) ∧ w' = w.setCell a (.int .i32 1) := by
 have hd := disable
 have he := enable
 have ha := acquire
 have hcas := run_call_cas_hit (P := Tryz.prog) Tryz.func68 (by kernel_rfl) (by kernel_rfl) (by kernel_rfl) .i32 (by kernel_rfl) (y := 1) hc hz
 have hc' : (w.setCell a (.int .i32 1)).cell? a = some (.int .i32 1) := World.cell?_setCell_same w a _ hc
 have hcv := run_convert_to_unsafe (P := Tryz.prog) (src := 124) (dst := 128) Tryz.underlying124 Tryz.underlying128 (by kernel_rfl) hc'
 go_enter Tryz.func56, Tryz.ntmps56
 go_wp2
 first | go_end0 | (simp only [Exit.inBlock, Exit.then]; refine bodyPost_ret (results_none rfl _ _ _) rfl ?_) | refine bodyPost_ret (results_none rfl _ _ _) rfl ?_
 go_wp2
 go_end0
 exact ⟨rfl, rfl⟩
theorem once_slow (g : Nat) (R : World → Prop) (w : World) (h0 : w.cell? ⟨g, 0, none⟩ = some (.int .u32 0)) (h1 : w.cell? ⟨g, 1, none⟩ = some (.int .i32 0)) (f1 : w.frozen? ⟨g, 1, none⟩ = false)
  (HC : Calls Tryz.prog 50 #[.pointer (some ⟨g, 0, none⟩)] (w.setCell ⟨g, 1, none⟩ (.int .i32 1)) fun e w' => e = .returned (.tuple #[]) ∧ R w')
  (HR : ∀ w', R w' → (∃ x, w'.cell? ⟨g, 0, none⟩ = some x) ∧ w'.cell? ⟨g, 1, none⟩ = some (.int .i32 1) ∧ w'.frozen? ⟨g, 0, none⟩ = false ∧ w'.frozen? ⟨g, 1, none⟩ = false) :
  Calls Tryz.prog 53 #[.pointer (some ⟨g, 0, none⟩), .func (.func 50) #[.pointer (some ⟨g, 0, none⟩)] #[]] w fun e w' => e = .returned (.tuple #[]) ∧ ∃ w1, R w1 ∧ w' = (w1.drew.setCell ⟨g, 0, none⟩ (.int .u32 1)).setCell ⟨g, 1, none⟩ (.int .i32 0) := by
 have hl := run_call_load (P := Tryz.prog) Tryz.func55 (by kernel_rfl) (by kernel_rfl) (by kernel_rfl) .u32 (by kernel_rfl) (w := w.setCell ⟨g, 1, none⟩ (.int .i32 1)) (a := ⟨g, 0, none⟩) (x := 0) ((World.cell?_setCell_other _ ⟨g, 1, none⟩ ⟨g, 0, none⟩ _ (by simp)).trans h0)
 have hnot : ∀ (x : Bool) (w : World), (Op.unary .not (.bool x)).run Tryz.prog w = .ok (.bool (!x)) w := fun _ _ => rfl
 go_enter_defers Tryz.func53, Tryz.ntmps53
 go_wp2_with (go_at_call 56; refine (lock_free ⟨g, 1, none⟩ _ (by go_simp) (by go_simp)).mono ?_; rintro e w' ⟨rfl, rfl⟩)
 go_wp2_with (first | (go_at_call 52; go_in) | (go_at_call 50; refine HC.mono ?_; rintro e w1 ⟨rfl, hw1⟩))
 obtain ⟨⟨x, k0⟩, k1, z0, z1⟩ := HR _ hw1
 refine leaves_cons (f := 58) (args := #[.pointer (some ⟨g, 0, none⟩), .bool true]) (by simp) (by simp [go_sem]) ?_
 refine (store_deferred ⟨g, 0, none⟩ x .returning _ k0 z0).mono ?_
 rintro e u' w'' ⟨rfl, rfl, rfl⟩
 refine leaves_cons (f := 57) (args := #[.pointer (some ⟨g, 1, none⟩)]) (by simp [settle]) (by simp [go_sem]) ?_
 refine (unlock_deferred ⟨g, 1, none⟩ _ _ ?_ ?_).mono ?_
 ·refine (World.cell?_setCell_other _ ⟨g, 0, none⟩ ⟨g, 1, none⟩ _ (by simp)).trans ?_
  rw [World.cell?_drew]
  exact k1
 ·simp [z1]
 rintro e u' w'' ⟨rfl, rfl, rfl⟩
 simp [Leaves, settle, results, Tryz.results53]
 exact ⟨w1, hw1, rfl⟩
theorem once_do (g : Nat) (R : World → Prop) (w : World) (h0 : w.cell? ⟨g, 0, none⟩ = some (.int .u32 0)) (h1 : w.cell? ⟨g, 1, none⟩ = some (.int .i32 0)) (f1 : w.frozen? ⟨g, 1, none⟩ = false)
  (HC : Calls Tryz.prog 50 #[.pointer (some ⟨g, 0, none⟩)] (w.setCell ⟨g, 1, none⟩ (.int .i32 1)) fun e w' => e = .returned (.tuple #[]) ∧ R w')
  (HR : ∀ w', R w' → (∃ x, w'.cell? ⟨g, 0, none⟩ = some x) ∧ w'.cell? ⟨g, 1, none⟩ = some (.int .i32 1) ∧ w'.frozen? ⟨g, 0, none⟩ = false ∧ w'.frozen? ⟨g, 1, none⟩ = false) :
  Calls Tryz.prog 49 #[.pointer (some ⟨g, 0, none⟩), .func (.func 50) #[.pointer (some ⟨g, 0, none⟩)] #[]] w fun e w' => e = .returned (.tuple #[]) ∧ ∃ w1, R w1 ∧ w' = (w1.drew.setCell ⟨g, 0, none⟩ (.int .u32 1)).setCell ⟨g, 1, none⟩ (.int .i32 0) := by
 have hl := run_call_load (P := Tryz.prog) Tryz.func55 (by kernel_rfl) (by kernel_rfl) (by kernel_rfl) .u32 (by kernel_rfl) h0
 have hnot : ∀ (x : Bool) (w : World), (Op.unary .not (.bool x)).run Tryz.prog w = .ok (.bool (!x)) w := fun _ _ => rfl
 go_enter Tryz.func49, Tryz.ntmps49
 go_wp2_with (first | (go_at_call 53; refine (once_slow g R _ h0 h1 f1 HC HR).mono ?_; rintro e w' ⟨rfl, hw⟩) | (go_at_call 52; go_in))
 go_end0
 exact ⟨rfl, hw⟩
def oldnew : List ByteArray := [⟨#[38]⟩, ⟨#[38, 97, 109, 112, 59]⟩, ⟨#[60]⟩, ⟨#[38, 108, 116, 59]⟩, ⟨#[62]⟩, ⟨#[38, 103, 116, 59]⟩, ⟨#[34]⟩, ⟨#[38, 113, 117, 111, 116, 59]⟩, ⟨#[9]⟩, ⟨#[38, 35, 57, 59]⟩, ⟨#[10]⟩, ⟨#[38, 35, 49, 48, 59]⟩, ⟨#[13]⟩, ⟨#[38, 35, 49, 51, 59]⟩]
theorem at_on {w : World} {ga : Nat} (hc : Kd.C Kd.string w (some ⟨ga, 0, none⟩) 14 oldnew) (j : Nat) (hj : j < 14) : w.cell? ⟨ga, j, none⟩ = some (.string (oldnew.getD j ⟨#[]⟩)) := by
 obtain ⟨ad', c, e, _, hK, hcc⟩ := Kd.C_get hc (⟨#[]⟩ : ByteArray) (j : Int) (by omega) (by omega)
 injection e with e
 subst e
 have h := hcc 0 (.string (oldnew.getD j ⟨#[]⟩)) (by rw [show c = [Value.string (oldnew.getD (j : Int).toNat ⟨#[]⟩)] from hK]; rfl)
 have e2 : (j : Int).toNat * Kd.string.sz + 0 = j := by show (j : Int).toNat * 1 + 0 = j; omega
 rw [e2, add_plain] at h
 exact h
theorem wid_ {x : Int} (h0 : -9223372036854775808 ≤ x) (h1 : x ≤ 9223372036854775807) : wrap64 x = x := by unfold wrap64; omega
theorem old_one : ∀ k : Nat, k < 7 → (oldnew.getD (12 - 2 * k) ⟨#[]⟩).size = 1 ∧ (oldnew.getD (12 - 2 * k + 1) ⟨#[]⟩).size ≠ 1 := by decide
def entries : List (Nat × List Int) := [(38, [38, 97, 109, 112, 59]), (60, [38, 108, 116, 59]), (62, [38, 103, 116, 59]), (34, [38, 113, 117, 111, 116, 59]), (9, [38, 35, 57, 59]), (10, [38, 35, 49, 48, 59]), (13, [38, 35, 49, 51, 59])]
def tabN (m b : Nat) : Option (List Int) := (entries.drop m).lookup b
def doneL (m : Nat) : List ByteArray := ((entries.drop m).map fun p => (⟨#[p.1.toUInt8]⟩ : ByteArray)).reverse
/-- a row of bytes of one's own whose block bears a mark behind its end ([]byte(s)). -/
def LowRow (g e : Nat) (w : World) (xs : List Int) : Prop := ∃ cur : Array Value, w.heap[g]? = some (.cells cur e (cur.size, cur.size + 1)) ∧ xs.length ≤ cur.size ∧ ∀ j, j < xs.length → cur[j]? = some (.int .u8 (xs.getD j 0))
theorem low_cell {g e : Nat} {w : World} {xs : List Int} (h : LowRow g e w xs) (i : Int) (h0 : 0 ≤ i) (h1 : i < xs.length) : w.cell? ⟨g, i.toNat, none⟩ = some (.int .u8 (rd xs i)) ∧ w.frozen? ⟨g, i.toNat, none⟩ = false := by
 obtain ⟨cur, hc, hl, hx⟩ := h
 have hi : i.toNat < xs.length := by omega
 constructor
 ·unfold World.cell?
  simp only [hc]
  simpa [rd] using hx i.toNat hi
 ·unfold World.frozen?
  simp only [hc]
  have : ¬ cur.size ≤ i.toNat := by omega
  simp [this]
theorem low_set {g e : Nat} {w : World} {xs : List Int} (h : LowRow g e w xs) (i : Int) (h0 : 0 ≤ i) (h1 : i < xs.length) (x : Int) : LowRow g e (w.setCell ⟨g, i.toNat, none⟩ (.int .u8 x)) (xs.set i.toNat x) := by
 obtain ⟨cur, hc, hl, hx⟩ := h
 refine ⟨cur.setIfInBounds i.toNat (.int .u8 x), ?_, by simpa using hl, fun j hj => ?_⟩
 ·have e1 : (w.setCell ⟨g, i.toNat, none⟩ (.int .u8 x)).heap[g]? = some (.cells (cur.setIfInBounds i.toNat (.int .u8 x)) e (cur.size, cur.size + 1)) := by
   unfold World.setCell
   simp [Array.getElem?_modify, hc]
  rw [e1]; simp
 ·rw [List.length_set] at hj
  by_cases hij : j = i.toNat
  ·subst hij
   rw [Array.getElem?_setIfInBounds_self_of_lt (by omega), List.getD_eq_getElem?_getD, List.getElem?_set_self (by omega)]; rfl
  ·rw [Array.getElem?_setIfInBounds_ne (by omega), List.getD_eq_getElem?_getD, List.getElem?_set_ne (by omega), ← List.getD_eq_getElem?_getD]
   exact hx j hj
theorem low_of_conv (W : World) (e : Nat) (s : ByteArray) : LowRow W.heap.size e (Lib.bytesWorld W e s) (bytesOf s) := by
 have hn := Lib.bytesWorld_at_new W e s
 have key : ∀ j, j < s.size → (Lib.bytesCells W e s)[j]? = some (.int .u8 (s.data.toList.getD j 0).toNat) := by
  intro j hj
  have hc := Lib.bytesWorld_cell W e s j hj
  unfold World.cell? at hc
  simp only [hn] at hc
  simpa using hc
 have hl : (bytesOf s).length = s.size := bytesOf_length s
 refine ⟨Lib.bytesCells W e s, hn, ?_, fun j hj => ?_⟩
 ·rw [hl]
  by_cases h0 : s.size = 0
  ·omega
  ·have h1 := key (s.size - 1) (by omega)
   have h2 := (Array.getElem?_eq_some_iff.1 h1).1
   omega
 ·rw [hl] at hj
  rw [key j hj]
  have hj2 : j < s.data.toList.length := by rw [Lib.size_eq s] at hj; exact hj
  unfold bytesOf
  rw [List.getD_eq_getElem?_getD, List.getD_eq_getElem?_getD, List.getElem?_map, List.getElem?_eq_getElem hj2]
  rfl
theorem low_reads {g e : Nat} {w : World} {xs : List Int} {n : Nat} (h : LowRow g e w xs) (hn : xs.length = n) (hm : n ≤ 9223372036854775807) : ReadsInt w .u8 (some ⟨g, 0, none⟩) n xs := by
 refine ⟨hn, hm, fun _ => ⟨_, rfl, fun j hj => ?_⟩⟩
 rw [add_plain]
 have := (low_cell h (j : Int) (by omega) (by omega)).1
 rw [rd, Int.toNat_natCast] at this
 exact this
theorem low_conv_ {P : Program} {ops : Array Oper} {o : Oper} {rest : List Oper} {a : Act} {Q : Exit → Act → World → Prop} {W : World} (e : Nat) (hgd : o.guard = none) {N : Tmp} (_hd : o.dst = some N) (src dst : TypeId) (x : Operand) (ho : o.op = .convert src dst x)
  (s : ByteArray) (hx : a.eval x = .string s) {u : TypeDesc} (hs : P.underlying src = some u) (hds : P.underlying dst = some (.slice e)) (he : P.underlying e = some (.int .u8))
  (h : ∀ g w1 c, W.heap.size ≤ g → LowRow g e w1 (bytesOf s) → Below W.heap.size W w1 → wpList P ops Q rest (a.put o.dst (.slice (some ⟨g, 0, none⟩) s.size c)) w1) : wpList P ops Q (o :: rest) a W := by
 have hr := print_bytes (P := P) src dst e hs hds he s W
 refine Kd.event_run hgd ?_ (h W.heap.size _ (grownCap W s.size 0 e) (Nat.le_refl _) (low_of_conv W e s) (bytes_below (Below.refl _ _) (Nat.le_refl _) e s))
 simp [execOp, ho, hx, hr]
def RepAt (W : World) (gb : Nat) (x : Option Value) : Option (List Int) → Prop
 | none => x = some (.slice none 0 0)
 | some bs => ∃ h c, x = some (.slice (some ⟨h, 0, none⟩) bs.length c) ∧ gb < h ∧ LowRow h 5 W bs
def Inv (wr : World) (gb m : Nat) (W : World) : Prop := ∃ (cells : Array Value) (v : Value), W.heap[gb]? = some (.cells cells 108 (0, 0)) ∧ cells.size = 257 ∧ cells[256]? = some v ∧ (∀ b, b < 256 → RepAt W gb cells[b]? (tabN m b)) ∧ Kd.R Kd.string 9 W wr.heap.size (fun k => k ≠ gb) v (doneL m) ∧ Below wr.heap.size wr W
theorem old_fact : ∀ k : Nat, k < 7 → ∃ (bb : UInt8) (bs : List Int), oldnew.getD (2 * k) ⟨#[]⟩ = ⟨#[bb]⟩ ∧ bytesOf (oldnew.getD (2 * k + 1) ⟨#[]⟩) = bs ∧ entries.drop k = (bb.toNat, bs) :: entries.drop (k + 1) ∧ tabN (k + 1) bb.toNat = none
 | 0, _ => ⟨38, _, rfl, rfl, rfl, rfl⟩
 | 1, _ => ⟨60, _, rfl, rfl, rfl, rfl⟩
 | 2, _ => ⟨62, _, rfl, rfl, rfl, rfl⟩
 | 3, _ => ⟨34, _, rfl, rfl, rfl, rfl⟩
 | 4, _ => ⟨9, _, rfl, rfl, rfl, rfl⟩
 | 5, _ => ⟨10, _, rfl, rfl, rfl, rfl⟩
 | 6, _ => ⟨13, _, rfl, rfl, rfl, rfl⟩
 | n + 7, h => absurd h (by omega)
theorem one_str (W : World) (bb : UInt8) : (convert 69 9 (.slice (some ⟨W.heap.size, 0, none⟩) 1 1)).run Tryz.prog (W.alloc (.cells #[.int .u8 (bb.toNat : Int)] 5)) = .ok (.string ⟨#[bb]⟩) (W.alloc (.cells #[.int .u8 (bb.toNat : Int)] 5)) := by
 have hr : ReadsInt (W.alloc (.cells #[.int .u8 (bb.toNat : Int)] 5)) .u8 (some ⟨W.heap.size, 0, none⟩) 1 [(bb.toNat : Int)] := by
  refine ⟨rfl, by omega, fun _ => ⟨_, rfl, fun j hj => ?_⟩⟩
  obtain rfl : j = 0 := by omega
  rw [add_plain]
  exact (blk_cell (blk_new W _) 0).trans rfl
 have h := string_of_reads (P := Tryz.prog) (src := 69) (dst := 9) (c := 1) Tryz.underlying69 Tryz.underlying5 Tryz.underlying9 hr
 have e : strOfNums [(bb.toNat : Int)] = ⟨#[bb]⟩ := by simp [strOfNums]
 rw [e] at h
 exact h
theorem tab_small (k : Nat) (hk : k < 7) (bs : List Int) {b : Nat} (h : entries.drop k = (b, bs) :: entries.drop (k + 1)) : bs.length ≤ 6 := by
 have key : ∀ p ∈ entries, p.2.length ≤ 6 := by decide
 exact key (b, bs) (List.mem_of_mem_drop (by rw [h]; exact List.mem_cons_self))
theorem low_move {g e : Nat} {w w' : World} {xs : List Int} (h : LowRow g e w xs) (he : w'.heap[g]? = w.heap[g]?) : LowRow g e w' xs := by
 obtain ⟨cur, hc, hl, hx⟩ := h
 exact ⟨cur, he.trans hc, hl, hx⟩
theorem tab_step {k : Nat} {b : Nat} {bs : List Int} (h : entries.drop k = (b, bs) :: entries.drop (k + 1)) (x : Nat) : tabN k x = if x = b then some bs else tabN (k + 1) x := by
 unfold tabN
 rw [h, List.lookup_cons]
 by_cases e : x = b
 ·rw [if_pos e, beq_iff_eq.mpr e]
 ·rw [if_neg e, beq_eq_false_iff_ne.mpr e]
theorem done_step {k : Nat} {bb : UInt8} {bs : List Int} (h : entries.drop k = (bb.toNat, bs) :: entries.drop (k + 1)) : doneL k = doneL (k + 1) ++ [⟨#[bb]⟩] := by
 unfold doneL
 rw [h, List.map_cons, List.reverse_cons]
 have e : bb.toNat.toUInt8 = bb := by simp
 rw [e]
theorem inv_step {w wr w1 w3 : World} {gb k1 g3 cap3 : Nat} {bb : UInt8} {bs : List Int} {sb : ByteArray} {cells : Array Value} {v v1 : Value} {o1 : Obj}
  (hgb : gb = w.heap.size + 1) (HBK : wr.heap[gb]? = some (.cells cells 108 (0, 0))) (HCS : cells.size = 257) (HT : ∀ b, b < 256 → RepAt wr gb cells[b]? (tabN (k1 + 1) b))
  (HR : Kd.R Kd.string 9 wr w.heap.size (fun k => k ≠ gb) v (doneL (k1 + 1))) (HG1 : (wr.alloc o1).grownBy w1 v.ownBlock) (HV1 : Kd.R Kd.string 9 w1 w.heap.size (fun k => k ≠ gb) v1 (doneL (k1 + 1) ++ [⟨#[bb]⟩])) (HB1 : Below w.heap.size w w1)
  (HBK3 : w3.heap[gb]? = some (.cells (cells.setIfInBounds 256 v1) 108 (0, 0))) (HB3 : Below (w1.setCell ⟨gb, 256, none⟩ v1).heap.size (w1.setCell ⟨gb, 256, none⟩ v1) w3) (HG3 : (w1.setCell ⟨gb, 256, none⟩ v1).heap.size ≤ g3) (HL3 : LowRow g3 5 w3 (bytesOf sb)) (hlt1 : gb < w1.heap.size)
  (HQ2 : bytesOf sb = bs) (HQ3 : entries.drop k1 = (bb.toNat, bs) :: entries.drop (k1 + 1)) :
  Inv w gb k1 (w3.setCell ⟨gb, bb.toNat, none⟩ (.slice (some ⟨g3, 0, none⟩) sb.size cap3)) := by
 have hbb := bb.toNat_lt
 have hs1 : (w1.setCell ⟨gb, 256, none⟩ v1).heap.size = w1.heap.size := by simp [World.setCell]
 have hg3 : gb < g3 := by omega
 refine ⟨_, v1, blk_put HBK3 bb.toNat _ rfl, by simp [HCS], ?_, fun b hb => ?_, ?_, ?_⟩
 ·rw [Array.getElem?_setIfInBounds_ne (by omega), Array.getElem?_setIfInBounds_self_of_lt (by omega)]
 ·rw [tab_step HQ3 b]
  by_cases e : b = bb.toNat
  ·rw [if_pos e, e]
   refine ⟨g3, cap3, ?_, hg3, ?_⟩
   ·rw [Array.getElem?_setIfInBounds_self_of_lt (by simp; omega), ← HQ2, bytesOf_length]
   ·rw [← HQ2]
    exact low_move HL3 (Below.heap_setCell w3 _ _ g3 (by show g3 ≠ gb; omega))
  ·rw [if_neg e, Array.getElem?_setIfInBounds_ne (by omega), Array.getElem?_setIfInBounds_ne (by omega)]
   have ht := HT b hb
   cases h9 : tabN (k1 + 1) b with
   | none => rw [h9] at ht; exact ht
   | some bs' =>
    rw [h9] at ht
    obtain ⟨h, c, hx, hgt, hl⟩ := ht
    refine ⟨h, c, hx, hgt, low_move hl ?_⟩
    obtain ⟨cur, hc, _⟩ := hl
    have hlt : h < wr.heap.size := (Array.getElem?_eq_some_iff.1 hc).1
    have hne : some h ≠ v.ownBlock := by
     intro e9
     obtain ⟨cs, h8⟩ := Kd.R_typed HR h e9.symm
     rw [hc] at h8
     simp at h8
    have q1 : (wr.alloc o1).heap[h]? = wr.heap[h]? := (below_alloc (Below.refl wr.heap.size wr) o1).block h hlt
    have q2 : w1.heap[h]? = (wr.alloc o1).heap[h]? := HG1.block h (by simp; omega) hne
    have hlt1' : h < w1.heap.size := by
     have e8 := q2.trans (q1.trans hc)
     exact (Array.getElem?_eq_some_iff.1 e8).1
    have q3 : (w1.setCell ⟨gb, 256, none⟩ v1).heap[h]? = w1.heap[h]? := Below.heap_setCell w1 _ _ h (by show h ≠ gb; omega)
    have q4 : w3.heap[h]? = (w1.setCell ⟨gb, 256, none⟩ v1).heap[h]? := HB3.block h (by omega)
    exact (Below.heap_setCell w3 _ _ h (by show h ≠ gb; omega)).trans (q4.trans (q3.trans (q2.trans q1)))
 ·rw [done_step HQ3]
  exact Kd.R_far (Kd.R_below (Kd.R_far HV1 (fun k hk => hk) _) HB3) (fun k hk => hk) _
 ·refine below_set ?_ (by show w.heap.size ≤ gb; omega)
  have h5 : Below w.heap.size w (w1.setCell ⟨gb, 256, none⟩ v1) := below_set HB1 (by show w.heap.size ≤ gb; omega)
  exact below_step h5 HB3
theorem info9_ : (Tryz.prog.info? 9).map (fun i => (i.zero, i.size, i.bytes)) = some (some (.string ⟨#[]⟩), 1, 16) := by kernel_rfl
theorem zero_size_ : Tryz.zeroCells108.size = 257 := by kernel_rfl
theorem zero_one_ : Tryz.zeroCells108.toList.all (fun v => v.oneCell') = true := by kernel_rfl
theorem store108_ (w : World) (v : Value) (hv : v.oneCell' = true) : (storeCells ⟨w.heap.size, 0, none⟩ (Tryz.zeroCells108.toList.set 256 v) 0).run Tryz.prog (w.alloc (.cells Tryz.zeroCells108 108)) = .ok () (w.alloc (.cells (Tryz.zeroCells108.toList.set 256 v).toArray 108)) := by
 have h := run_storeCells_new (P := Tryz.prog) w 108 Tryz.zeroCells108 (Tryz.zeroCells108.toList.set 256 v).toArray (by (have e : (Tryz.zeroCells108.toList.set 256 v).toArray.size = 257 := by simp [zero_size_]); rw [e]; exact (by kernel_rfl : (Tryz.prog.info? 108).map (·.size) = some 257)) (by simp) (by
  rw [Array.all_eq_true']
  intro x hx
  have hx' : x ∈ Tryz.zeroCells108.toList.set 256 v := by simpa using hx
  rcases List.mem_or_eq_of_mem_set hx' with h1 | h1
  ·exact List.all_eq_true.1 zero_one_ x h1
  ·rw [h1]; exact hv)
 simpa using h
theorem zero_nil_ : Tryz.zeroCells108.toList.take 256 = List.replicate 256 (.slice none 0 0) := by kernel_rfl
theorem inv_start (w W1 : World) (hW : W1 = (w.alloc (.cells (madeCells #[.string ⟨#[]⟩] 7) 9)).alloc (.cells (Tryz.zeroCells108.toList.set 256 (.slice (some ⟨w.heap.size, 0, none⟩) 0 7)).toArray 108)) : Inv w (w.heap.size + 1) 7 W1 := by
 have hsz : (w.alloc (.cells (madeCells #[.string ⟨#[]⟩] 7) 9)).heap.size = w.heap.size + 1 := by simp
 have hz : Tryz.zeroCells108.toList.length = 257 := zero_size_
 have hbl : W1.heap[w.heap.size + 1]? = some (.cells (Tryz.zeroCells108.toList.set 256 (.slice (some ⟨w.heap.size, 0, none⟩) 0 7)).toArray 108 (0, 0)) := by
  rw [hW, ← hsz]
  exact blk_new _ _
 refine ⟨_, .slice (some ⟨w.heap.size, 0, none⟩) 0 7, hbl, ?_, ?_, fun b hb => ?_, ?_, ?_⟩
 ·rw [List.size_toArray, List.length_set]; exact hz
 ·rw [List.getElem?_toArray, List.getElem?_set_self (by omega)]
 ·have e : tabN 7 b = none := rfl
  rw [e]
  show _ = some (Value.slice none 0 0)
  rw [List.getElem?_toArray, List.getElem?_set_ne (by omega), ← List.getElem?_take_of_lt hb, zero_nil_, List.getElem?_replicate, if_pos hb]
 ·refine ⟨fun k hk => ?_, [], ⟨rfl, .inr ⟨w.heap.size, 7, madeCells #[.string ⟨#[]⟩] 7, rfl, Nat.le_refl _, ?_, by decide, by decide, ?_, rfl⟩⟩, Reps.none _ _⟩
  ·injection hk with hk
   show k ≠ w.heap.size + 1
   have : w.heap.size = k := hk
   omega
  ·rw [hW]
   exact blk_alloc (blk_new w _) _
  ·exact size_madeCells _ _
 ·rw [hW]
  exact below_alloc (below_alloc (Below.refl _ _) _) _
theorem build_ (g ga c : Nat) (w : World) (h4 : w.cell? ⟨g, 4, none⟩ = some (.slice (some ⟨ga, 0, none⟩) 14 c)) (hc : ∀ j, j < 14 → w.cell? ⟨ga, j, none⟩ = some (.string (oldnew.getD j ⟨#[]⟩))) :
  Calls Tryz.prog 54 #[.pointer (some ⟨g, 0, none⟩)] w fun e w' => e = .returned (.iface 109 (.pointer (some ⟨w.heap.size + 1, 0, none⟩))) ∧ Inv w (w.heap.size + 1) 0 w' := by
 have q69 : ∀ (w : World) (a : Option Addr) (n c n' c' : Nat), (binOp .eql 69 (.slice a n c) (.slice none n' c')).run Tryz.prog w = .ok (.bool a.isNone) w := fun w a n c n' c' => Lib.run_eql_slice_nil w _ _ a n c n' c' Tryz.underlying69
 go_enter Tryz.func54, Tryz.ntmps54
 go_wp2
 go_loopg [4, 5] 7 (fun kq v4 v5 w' => ∃ b : Bool, v4 = .bool b ∧ v5 = .int .i64 (14 - 2 * (kq : Int)) ∧ Aside0 (kq ≤ 7) ∧ Aside0 (kq < 7 → b = false) ∧ w = w')
 case atStart => exact ⟨true, rfl, rfl, ⟨by omega⟩, ⟨fun h => by omega⟩, rfl⟩
 case round =>
  obtain ⟨b, rfl, rfl, HK, HB, rfl⟩ := hrel
  cases gk with
  | zero =>
   obtain rfl := HB.out (by omega)
   have hmk : (Instr.makeSlice 70 (.int .i64 0) (.int .i64 7)).run Tryz.prog w = .ok (.slice (some ⟨w.heap.size, 0, none⟩) 0 7) (w.alloc (.cells (madeCells #[.string ⟨#[]⟩] 7) 9)) := by
    obtain ⟨i9, hi9, hz9⟩ := Option.map_eq_some_iff.1 info9_
    simp only [Prod.mk.injEq] at hz9
    obtain ⟨z1, z2, z3⟩ := hz9
    have z3 := And.intro z2 z3
    have h := run_make (P := Tryz.prog) (w := w) 70 9 i9 _ Tryz.underlying70 hi9 z1 (kl := .i64) (kc := .i64) (l := 0) (c := 7) (by decide) (by decide) (by rw [z3.2]; decide) (by decide)
    rw [z2] at h
    exact h
   have hst : (storeCells ⟨w.heap.size + 1, 0, none⟩ (Tryz.zeroCells108.toList.set 256 (.slice (some ⟨w.heap.size, 0, none⟩) 0 7)) 0).run Tryz.prog ((w.alloc (.cells (madeCells #[.string ⟨#[]⟩] 7) 9)).alloc (.cells Tryz.zeroCells108 108)) = .ok () ((w.alloc (.cells (madeCells #[.string ⟨#[]⟩] 7) 9)).alloc (.cells (Tryz.zeroCells108.toList.set 256 (.slice (some ⟨w.heap.size, 0, none⟩) 0 7)).toArray 108)) := by
    have h := store108_ (w.alloc (.cells (madeCells #[.string ⟨#[]⟩] 7) 9)) (.slice (some ⟨w.heap.size, 0, none⟩) 0 7) rfl
    have e : (w.alloc (.cells (madeCells #[.string ⟨#[]⟩] 7) 9)).heap.size = w.heap.size + 1 := by simp
    rw [e] at h
    exact h
   go_wp2
   obtain ⟨W1, hW1⟩ : ∃ W1, W1 = (w.alloc (.cells (madeCells #[.string ⟨#[]⟩] 7) 9)).alloc (.cells (Tryz.zeroCells108.toList.set 256 (.slice (some ⟨w.heap.size, 0, none⟩) 0 7)).toArray 108) := ⟨_, rfl⟩
   rw [← hW1]
   have HI := Aside0.mk (inv_start w W1 hW1)
   obtain ⟨gb, hgb⟩ : ∃ gb, gb = w.heap.size + 1 := ⟨_, rfl⟩
   rw [← hgb] at HI ⊢
   have HG := Aside0.mk hgb
   clear hgb hW1 hmk hst
   go_loopg [12] 7 (fun kq v12 w' => v12 = .int .i64 (2 * (kq : Int) - 2) ∧ Aside0 (kq ≤ 7) ∧ Aside0 (Inv w gb kq w'))
   case atStart => exact ⟨rfl, ⟨by omega⟩, HI⟩
   case round =>
    clear HI
    obtain ⟨rfl, HK2, HI⟩ := hrel
    cases gk with
    | zero =>
     go_wp2
     go_ret
     have hg9 := HG.out
     subst hg9
     exact ⟨rfl, HI.out⟩
    | succ k1 =>
     have hk1 : k1 < 7 := by have := HK2.out; omega
     have e1 : (2 * ((k1 + 1 : Nat) : Int) - 2) = ((2 * k1 : Nat) : Int) := by omega
     rw [e1]
     obtain ⟨cells, v, hb, hcs, hcv, htab, hrow, hbel⟩ := HI.out
     obtain ⟨sa, hsa⟩ : ∃ s, s = oldnew.getD (2 * k1) ⟨#[]⟩ := ⟨_, rfl⟩
     obtain ⟨sb, hsb⟩ : ∃ s, s = oldnew.getD (2 * k1 + 1) ⟨#[]⟩ := ⟨_, rfl⟩
     have hx1 := hc (2 * k1) (by omega)
     have hx2 := hc (2 * k1 + 1) (by omega)
     rw [← hsa] at hx1
     rw [← hsb] at hx2
     replace hx1 := (hbel.cell (World.block_lt_of_cell? w _ hx1)).trans hx1
     replace hx2 := (hbel.cell (World.block_lt_of_cell? w _ hx2)).trans hx2
     have p0 : 0 ≤ ((2 * k1 : Nat) : Int) := by omega
     have p1 : 0 ≤ ((2 * k1 : Nat) : Int) ∧ ((2 * k1 : Nat) : Int) < 14 := by omega
     have w1 : wrap64 (((2 * k1 : Nat) : Int) + 1) = ((2 * k1 + 1 : Nat) : Int) := by rw [wid_ (by omega) (by omega)]; omega
     have p2 : 0 ≤ ((2 * k1 + 1 : Nat) : Int) ∧ ((2 * k1 + 1 : Nat) : Int) < 14 := by omega
     obtain ⟨j, hj⟩ : ∃ j, j = 2 * k1 := ⟨_, rfl⟩
     rw [← hj] at hx1 hx2 p0 p1 p2 w1 hsa hsb ⊢
     have HJ := Aside0.mk hj
     have HK1 := Aside0.mk hk1
     obtain ⟨bb, bs, q1, q2, q3, q4⟩ := old_fact k1 hk1
     rw [← hj] at q1 q2
     rw [q1] at hsa
     rw [← hsb] at q2
     subst hsa
     have hz := htab bb.toNat bb.toNat_lt
     rw [q4] at hz
     have hz' : cells[bb.toNat]? = some (.slice none 0 0) := hz
     have hcz : wr.cell? ⟨gb, bb.toNat, none⟩ = some (.slice none 0 0) := (blk_cell hb bb.toNat).trans hz'
     have hcv' : wr.cell? ⟨gb, 256, none⟩ = some v := (blk_cell hb 256).trans hcv
     have hbf : ∀ i, wr.frozen? ⟨gb, i, none⟩ = false := fun i => blk_frozen hb i
     have p3 : 0 ≤ (bb.toNat : Int) ∧ (bb.toNat : Int) < 256 := by have := bb.toNat_lt; omega
     have hcon := one_str wr bb
     have hg0 : ∀ h, (⟨#[bb]⟩ : ByteArray)[0]'h = bb := fun _ => rfl
     have HQ2 := Aside0.mk q2
     have HQ3 := Aside0.mk q3
     have HZ := Aside0.mk hz'
     clear q1 q2 q3 q4 hz hz' hsb
     have HT := Aside0.mk htab
     have HR := Aside0.mk hrow
     have HBL := Aside0.mk hbel
     have HCS := Aside0.mk hcs
     have HBK := Aside0.mk hb; have HCV := Aside0.mk hcv; clear hj hk1 htab hrow hbel hcs e1 HI hb hcv
     have HSL : Aside0 (sb.size ≤ 9223372036854775807) := ⟨by have h := HQ2.out; have h2 := bytesOf_length sb; have h3 := tab_small k1 HK1.out bs HQ3.out; rw [h] at h2; omega⟩
     have hgv : some gb ≠ (v : Value).ownBlock := fun e_ => (HR.out.1 gb e_.symm) rfl
     have hglt : gb < wr.heap.size := blk_lt HBK.out
     have hle : w.heap.size ≤ wr.heap.size := HBL.out.size
     have HLT := Aside0.mk hglt
     have HLE := Aside0.mk hle
     have HGV := Aside0.mk hgv
     clear hglt hle hgv
     go_wp2_with (first | ((with_reducible refine gate_builtin (b := .append) (xs := #[.tmp 119, .tmp 123]) rfl ?_); at_builtin; refine Kd.R_append Kd.string (w0 := w) w.heap.size rfl (.tmp 119) (.tmp 123) 70 9 (.string ⟨#[]⟩) 16 rfl Tryz.underlying70 info9_ rfl (by decide) (by omega) v (doneL (k1 + 1)) ⟨#[bb]⟩ [.string ⟨#[bb]⟩] (fun k_ => k_ ≠ gb) (fun _ => False) rfl ?aX ?aP (fun _ hk => hk.elim) ?aF ?aO ?aB ?aS ?aL ?_; (case aX => first | rfl | (go_simp; done) | (go_simp; rfl)); (case aP => rfl); (case aF => exact fun k_ hk e_ => by (have h1 := HLT.out; rw [e_] at hk; simp at hk; omega)); (case aO => exact Kd.R_alloc HR.out _); (case aB => exact below_alloc HBL.out _); (case aS => (have h1 := HLE.out; simp; omega)); (case aL => simp [doneL, entries]; omega); intro v1 w1 hr1 hb1 hg1 hat1; have HV1 := Aside0.mk hr1; have HB1 := Aside0.mk hb1; have HBK1 := Aside0.mk (blk_grown (blk_alloc HBK.out _) hg1 HGV.out); have HG1 := Aside0.mk hg1; clear hr1 hb1 hg1 hat1 hcon hcz hcv' hx1 hx2; have hf1 := fun i => blk_frozen HBK1.out i; have hc1 : w1.cell? ⟨gb, 256, none⟩ = some v := (blk_cell HBK1.out 256).trans HCV.out; obtain ⟨A1, cap1, e1_⟩ := Kd.R_slice HV1.out; subst e1_) | ((with_reducible refine gate_dst (N := 128) rfl ?_); refine low_conv_ 5 rfl (N := 128) rfl 9 69 _ rfl sb rfl Tryz.underlying9 Tryz.underlying69 Tryz.underlying5 ?_; intro g3 w3 cap3 hg3 hl3 hb3; have HG3 := Aside0.mk hg3; have HL3 := Aside0.mk hl3; clear hg3 hl3; have HB3 := Aside0.mk hb3; clear hb3 hf1 hc1; have HBK3 := Aside0.mk (blk_below (blk_put HBK1.out 256 _ rfl) HB3.out); have hf3 := fun i => blk_frozen HBK3.out i; have hc3 : w3.cell? ⟨gb, bb.toNat, none⟩ = some (.slice none 0 0) := (blk_cell HBK3.out bb.toNat).trans (by have := bb.toNat_lt; rw [Array.getElem?_setIfInBounds_ne (by omega)]; exact HZ.out)))
     go_roundg k1
     case measure => omega
     case rel =>
      refine ⟨?_, ⟨by have := HK1.out; omega⟩, ⟨?_⟩⟩
      ·have := HJ.out; have := HK1.out
       congr 1; omega
      ·exact inv_step HG.out HBK.out HCS.out HT.out HR.out HG1.out (v1 := .slice A1 ((doneL (k1 + 1)).length + 1) cap1) (by have h := HV1.out; rw [List.length_append, List.length_singleton] at h; exact h) HB1.out HBK3.out HB3.out HG3.out HL3.out (blk_lt HBK1.out) HQ2.out HQ3.out
  | succ k1 =>
   have hk1 : k1 < 7 := by have := HK.out; omega
   obtain ⟨s1, s2⟩ := old_one k1 hk1
   have e1 : (14 - 2 * ((k1 + 1 : Nat) : Int)) = ((12 - 2 * k1 : Nat) : Int) := by omega
   have hx1 := hc (12 - 2 * k1) (by omega)
   have hx2 := hc (12 - 2 * k1 + 1) (by omega)
   obtain ⟨j, hj⟩ : ∃ j : Nat, j = 12 - 2 * k1 := ⟨_, rfl⟩
   rw [e1]
   rw [← hj] at hx1 hx2 s1 s2 ⊢
   have HJ := Aside0.mk hj
   have HK1 := Aside0.mk hk1
   have hj14 : j + 1 < 14 := by omega
   clear hj e1 hk1
   obtain ⟨sa, hsa⟩ : ∃ s, s = oldnew.getD j ⟨#[]⟩ := ⟨_, rfl⟩
   obtain ⟨sb, hsb⟩ : ∃ s, s = oldnew.getD (j + 1) ⟨#[]⟩ := ⟨_, rfl⟩
   rw [← hsa] at hx1 s1
   rw [← hsb] at hx2 s2
   clear hsa hsb
   have b1 : decide ((j : Int) < 14) = true := decide_eq_true (by omega)
   have p1 : 0 ≤ (j : Int) ∧ (j : Int) < 14 := by omega
   have b2 : ((sa.size : Int) != 1) = false := by rw [s1]; rfl
   have w1 : wrap64 ((j : Int) + 1) = ((j + 1 : Nat) : Int) := by rw [wid_ (by omega) (by omega)]; omega
   have p2 : 0 ≤ ((j + 1 : Nat) : Int) ∧ ((j + 1 : Nat) : Int) < 14 := by omega
   have b3 : ((sb.size : Int) != 1) = true := bne_iff_ne.mpr (by omega)
   clear s1 s2 hj14
   go_wp2
   go_roundg k1
   case measure => omega
   case rel => exact ⟨false, rfl, by (have := HJ.out; have := HK1.out; simp; omega), ⟨by have := HK1.out; omega⟩, ⟨fun _ => rfl⟩, rfl⟩
theorem frozen_old {w w1 : World} {g : Nat} (h : w1.heap[g]? = w.heap[g]?) (i : Nat) : w1.frozen? ⟨g, i, none⟩ = w.frozen? ⟨g, i, none⟩ := by
 unfold World.frozen?
 simp only [h]
theorem cell_old {w w1 : World} {g : Nat} (h : w1.heap[g]? = w.heap[g]?) (i : Nat) : w1.cell? ⟨g, i, none⟩ = w.cell? ⟨g, i, none⟩ := by
 unfold World.cell?
 simp only [h]
/-- '(*Replacer).buildOnce': the reader is laid, the pairs are let go. -/
theorem build_once (g ga c : Nat) (x3 : Value) (w : World) (h3 : w.cell? ⟨g, 3, none⟩ = some x3) (h4 : w.cell? ⟨g, 4, none⟩ = some (.slice (some ⟨ga, 0, none⟩) 14 c)) (hf : ∀ i, w.frozen? ⟨g, i, none⟩ = false) (hc : ∀ j, j < 14 → w.cell? ⟨ga, j, none⟩ = some (.string (oldnew.getD j ⟨#[]⟩))) :
  Calls Tryz.prog 50 #[.pointer (some ⟨g, 0, none⟩)] w fun e w' => e = .returned (.tuple #[]) ∧ ∃ w1, Inv w (w.heap.size + 1) 0 w1 ∧ w' = (w1.setCell ⟨g, 3, none⟩ (.iface 109 (.pointer (some ⟨w.heap.size + 1, 0, none⟩)))).setCell ⟨g, 4, none⟩ (.slice none 0 0) := by
 have H3 := Aside0.mk h3
 have H4 := Aside0.mk h4
 have HF := Aside0.mk hf
 clear h3 hf
 go_enter Tryz.func50, Tryz.ntmps50
 go_wp2_with (go_at_call 54; refine (build_ g ga c _ H4.out hc).mono ?_; rintro e w1 ⟨rfl, hi⟩; have HI := Aside0.mk hi; obtain ⟨cells, v, hb, hcs, hcv, htab, hrow, hbel⟩ := hi; have k3 := (hbel.cell (World.block_lt_of_cell? w _ H3.out)).trans H3.out; have k4 := (hbel.cell (World.block_lt_of_cell? w _ H4.out)).trans H4.out; have z : ∀ i, w1.frozen? ⟨g, i, none⟩ = false := fun i => (frozen_old (hbel.block g (World.block_lt_of_cell? w _ H3.out)) i).trans (HF.out i); clear hb hcs hcv htab hrow hbel h4)
 go_end0
 exact ⟨rfl, w1, HI.out, rfl⟩
theorem new_ (a0 c0 : Nat) (w : World) (hc : Kd.C Kd.string w (some ⟨a0, 0, none⟩) 14 oldnew) :
  Calls Tryz.prog 42 #[.slice (some ⟨a0, 0, none⟩) 14 c0] w fun e w' => ∃ g ga c', e = .returned (.pointer (some ⟨g, 0, none⟩)) ∧ w.heap.size ≤ g ∧ w'.heap[g]? = some (.cells #[.int .u32 0, .int .i32 0, .int .u32 0, .nilIface, .slice (some ⟨ga, 0, none⟩) 14 c'] 86 (0, 0)) ∧ Kd.C Kd.string w' (some ⟨ga, 0, none⟩) 14 oldnew ∧ Below w.heap.size w w' := by
 have HC := Aside0.mk hc
 clear hc
 go_enter Tryz.func42, Tryz.ntmps42
 go_wp2_with ((with_reducible refine gate_builtin (b := .append) rfl ?_); at_builtin; refine Kd.R_append_rows Kd.string (Rr := Kd.string.K w) (w0 := w) w.heap.size rfl (.const (.slice none 0 0)) (.tmp 8) 70 9 (.string ⟨#[]⟩) 16 rfl Tryz.underlying70 info9_ rfl (by decide) (by omega) (.slice none 0 0) [] oldnew _ _ _ (fun _ => True) (fun _ => False) rfl rfl ?aO ?aR ?aK (fun _ hk => hk.elim) (fun _ _ => trivial) ?aB ?aS ?aL ?_; (case aO => exact Kd.R_nil _ _ _ _ _); (case aR => exact HC.out); (case aK => exact fun _ _ h => h); (case aB => exact Below.refl _ _); (case aS => exact Nat.le_refl _); (case aL => decide); intro v1 w1 hr hb hg hat; obtain ⟨ga, cap, e1_, hg1, hg2, cs1, hcs1⟩ := Kd.R_form hr (by decide); have HR1 := Aside0.mk hr; have HB1 := Aside0.mk hb; clear hr hb hg hat hg1 hg2 hcs1; subst e1_)
 go_ret
 have h9 := (Kd.R_reads' HR1.out).2.2
 exact ⟨_, ga, cap, rfl, HB1.out.size, blk_new _ _, Kd.C_alloc h9 _, below_alloc HB1.out _⟩
def escB (b : UInt8) : List UInt8 := if b = 38 then [38, 97, 109, 112, 59] else if b = 60 then [38, 108, 116, 59] else if b = 62 then [38, 103, 116, 59] else if b = 34 then [38, 113, 117, 111, 116, 59] else if b = 9 then [38, 35, 57, 59] else if b = 10 then [38, 35, 49, 48, 59] else if b = 13 then [38, 35, 49, 51, 59] else [b]
def escL (l : List UInt8) : List UInt8 := l.flatMap escB
def numsOf (l : List UInt8) : List Int := l.map fun x => (x.toNat : Int)
theorem tab_all : ∀ n : Fin 256, tabN 0 n.val = if escB (UInt8.ofNat n.val) = [UInt8.ofNat n.val] then none else some (numsOf (escB (UInt8.ofNat n.val))) := by decide +kernel
theorem tab_esc (b : UInt8) : tabN 0 b.toNat = if escB b = [b] then none else some (numsOf (escB b)) := by
 have h := tab_all ⟨b.toNat, b.toNat_lt⟩
 simpa using h
theorem esc_len (b : UInt8) : 1 ≤ (escB b).length ∧ (escB b).length ≤ 6 := by
 unfold escB
 repeat' split
 all_goals simp
theorem esc_cons (b : UInt8) (l : List UInt8) : escL (b :: l) = escB b ++ escL l := rfl
theorem esc_app (a b : List UInt8) : escL (a ++ b) = escL a ++ escL b := by simp [escL]
theorem esc_take (l : List UInt8) (i : Nat) (b : UInt8) (h : l[i]? = some b) : escL (l.take (i + 1)) = escL (l.take i) ++ escB b := by
 rw [List.take_add_one, h, esc_app]; simp [escL]
theorem esc_le (l : List UInt8) : (escL l).length ≤ 6 * l.length := by
 induction l with
 | nil => simp [escL]
 | cons a t ih => rw [esc_cons, List.length_append, List.length_cons]; have := (esc_len a).2; omega
theorem esc_pre (l : List UInt8) (i : Nat) (b : UInt8) (h : l[i]? = some b) : (escL (l.take i)).length + (escB b).length ≤ (escL l).length := by
 have e : escL l = escL (l.take (i + 1)) ++ escL (l.drop (i + 1)) := by rw [← esc_app, List.take_append_drop]
 rw [e, esc_take l i b h]; simp
def keyN (m : Nat) : UInt8 := [13, 10, 9, 34, 62, 60, 38].getD m 0
def gain (l : List UInt8) (m : Nat) : Nat := l.count (keyN m) * ((escB (keyN m)).length - 1)
def gains (l : List UInt8) : Nat → Nat
 | 0 => 0
 | m + 1 => gains l m + gain l m
theorem gain_byte : ∀ n : Fin 256, gains [UInt8.ofNat n.val] 7 + 1 = (escB (UInt8.ofNat n.val)).length := by decide +kernel
theorem gain_cons (b : UInt8) (l : List UInt8) (m : Nat) : gain (b :: l) m = gain [b] m + gain l m := by
 unfold gain
 rw [List.count_cons, List.count_cons, List.count_nil, Nat.zero_add, Nat.add_mul]
 omega
theorem gains_cons (b : UInt8) (l : List UInt8) : ∀ m, gains (b :: l) m = gains [b] m + gains l m
 | 0 => rfl
 | m + 1 => by rw [gains, gains, gains, gains_cons b l m, gain_cons]; omega
theorem gains_all (l : List UInt8) : l.length + gains l 7 = (escL l).length := by
 induction l with
 | nil => rfl
 | cons a t ih =>
  rw [gains_cons, esc_cons, List.length_append, List.length_cons, ← ih]
  have h := gain_byte ⟨a.toNat, a.toNat_lt⟩
  simp only [UInt8.ofNat_toNat] at h
  omega
theorem gain_le (l : List UInt8) (m : Nat) : gain l m ≤ 5 * l.length := by
 have h1 := List.count_le_length (a := keyN m) (l := l)
 have h2 := (esc_len (keyN m)).2
 unfold gain
 calc l.count (keyN m) * ((escB (keyN m)).length - 1) ≤ l.length * 5 := Nat.mul_le_mul h1 (by omega)
  _ = 5 * l.length := Nat.mul_comm _ _
theorem gains_le (l : List UInt8) : ∀ m, m ≤ 7 → gains l m ≤ 35 * l.length := by
 have : ∀ m, gains l m ≤ 5 * m * l.length := by
  intro m
  induction m with
  | zero => simp [gains]
  | succ k ih =>
   rw [gains]
   have h := gain_le l k
   have e : 5 * (k + 1) * l.length = 5 * k * l.length + 5 * l.length := by rw [Nat.mul_add, Nat.add_mul, Nat.mul_one]
   omega
 intro m hm
 exact Nat.le_trans (this m) (Nat.mul_le_mul_right _ (by omega))
theorem key_all : ∀ n : Fin 256, escB (UInt8.ofNat n.val) = [UInt8.ofNat n.val] ∨ ∃ m, m < 7 ∧ keyN m = UInt8.ofNat n.val := by decide +kernel
theorem esc_plain (l : List UInt8) (h : ∀ b ∈ l, escB b = [b]) : escL l = l := by
 induction l with
 | nil => rfl
 | cons a t ih =>
  rw [esc_cons, h a List.mem_cons_self, ih (fun b hb => h b (List.mem_cons_of_mem _ hb))]; rfl
theorem esc_same (l : List UInt8) (h : ∀ m, m < 7 → l.count (keyN m) = 0) : escL l = l := by
 refine esc_plain l fun b hb => ?_
 rcases key_all ⟨b.toNat, b.toNat_lt⟩ with h1 | ⟨m, hm, h1⟩
 ·simpa using h1
 ·simp only [UInt8.ofNat_toNat] at h1
  have := h m hm
  rw [h1, List.count_eq_zero] at this
  exact absurd hb this
theorem done_key : ∀ m, m < 7 → (doneL 0)[m]? = some ⟨#[keyN m]⟩ ∧ escB (keyN m) ≠ [keyN m] := by decide +kernel
theorem str_nums (l : List UInt8) : strOfNums (numsOf l) = ⟨l.toArray⟩ := by
 unfold strOfNums numsOf
 congr 1
 rw [List.map_map]
 congr 1
 conv => rhs; rw [← List.map_id l]
 exact List.map_congr_left fun a _ => by simp
def encB (b : UInt8) : Value := .int .u8 (b.toNat : Int)
def Rep (lo gb : Nat) (W : World) : Prop := ∃ (cells : Array Value) (v : Value), lo ≤ gb ∧ W.heap[gb]? = some (.cells cells 108 (0, 0)) ∧ cells.size = 257 ∧ cells[256]? = some v ∧ (∀ b, b < 256 → RepAt W gb cells[b]? (tabN 0 b)) ∧ Kd.R Kd.string 9 W lo (fun _ => True) v (doneL 0)
theorem rep_byte {gb : Nat} {W : World} {cells : Array Value} (ht : ∀ b, b < 256 → RepAt W gb cells[b]? (tabN 0 b)) (b : UInt8) :
  (escB b = [b] ∧ cells[b.toNat]? = some (.slice none 0 0)) ∨ (escB b ≠ [b] ∧ ∃ h c, cells[b.toNat]? = some (.slice (some ⟨h, 0, none⟩) (escB b).length c) ∧ gb < h ∧ LowRow h 5 W (numsOf (escB b))) := by
 have h := ht b.toNat b.toNat_lt
 rw [tab_esc] at h
 by_cases e : escB b = [b]
 ·rw [if_pos e] at h; exact .inl ⟨e, h⟩
 ·rw [if_neg e] at h
  obtain ⟨h1, c, hx, hg, hl⟩ := h
  exact .inr ⟨e, h1, c, by rw [hx]; simp [numsOf], hg, hl⟩
/-- what is laid so far in the buffer 'g' of N bytes. -/
def Buf (g N : Nat) (p : List UInt8) (w : World) : Prop := ∃ cur : List Value, w.heap[g]? = some (.cells cur.toArray 5 (0, 0)) ∧ cur.length = N ∧ cur.take p.length = p.map encB
theorem buf_start {w : World} {g N : Nat} (z : Array Value) (h : w.heap[g]? = some (.cells (madeCells z N) 5 (0, 0))) : Buf g N [] w :=
 ⟨(madeCells z N).toList, by rw [h], by simp [madeCells], by simp⟩
theorem buf_cell {w : World} {g N : Nat} {p : List UInt8} (h : Buf g N p w) (i : Nat) (hi : i < N) : (∃ x, w.cell? ⟨g, i, none⟩ = some x) ∧ w.frozen? ⟨g, i, none⟩ = false := by
 obtain ⟨cur, hc, hl, _⟩ := h
 refine ⟨⟨cur[i]'(by omega), (blk_cell hc i).trans (by simp <;> omega)⟩, blk_frozen hc i⟩
theorem buf_put {w : World} {g N : Nat} {p : List UInt8} (h : Buf g N p w) (hp : p.length < N) (b : UInt8) (q : List UInt8) (hq : q = p ++ [b]) : Buf g N q (w.setCell ⟨g, p.length, none⟩ (encB b)) := by
 obtain ⟨cur, hc, hl, ht⟩ := h
 subst hq
 refine ⟨cur.set p.length (encB b), ?_, by simpa using hl, ?_⟩
 ·rw [blk_put hc p.length (encB b) rfl]
  simp
 ·rw [List.length_append, List.length_singleton, List.take_set, List.take_add_one, List.map_append, ← ht]
  rw [List.set_append_right _ _ (by simp; omega)]
  have e : p.length - (List.take p.length cur).length = 0 := by simp; omega
  rw [e]
  have e2 : cur[p.length]?.toList = [cur[p.length]'(by omega)] := by simp <;> omega
  simp [e2]
theorem buf_splice {g N : Nat} {w : World} {p q r : List UInt8} {cur : List Value} (hl : cur.length = N) (ht : cur.take p.length = p.map encB) (hN : p.length + q.length ≤ N) (hr : r = p ++ q) (h : w.heap[g]? = some (.cells (splice cur p.length (q.map encB)).toArray 5 (0, 0))) : Buf g N r w := by
 subst hr
 refine ⟨_, h, ?_, ?_⟩
 ·rw [length_splice _ _ _ (by simp; omega)]; exact hl
 ·unfold splice
  rw [ht, ← List.append_assoc, List.take_append_of_le_length (by simp), List.map_append, List.take_of_length_le (by simp)]
theorem buf_reads {w : World} {g N : Nat} {p : List UInt8} (h : Buf g N p w) (hp : p.length = N) (hN : N ≤ 9223372036854775807) : ReadsInt w .u8 (some ⟨g, 0, none⟩) N (numsOf p) := by
 obtain ⟨cur, hc, hl, ht⟩ := h
 refine ⟨by simp [numsOf, hp], hN, fun _ => ⟨_, rfl, fun j hj => ?_⟩⟩
 rw [add_plain]
 refine (blk_cell hc j).trans ?_
 have hj2 : j < p.length := by omega
 rw [List.getElem?_toArray, ← List.getElem?_take_of_lt (l := cur) hj2, ht]
 rw [List.getD_eq_getElem?_getD]
 simp [numsOf, encB, hj2]
theorem str_of {w : World} {g N c : Nat} {p : List UInt8} (h : Buf g N p w) (hp : p.length = N) (hN : N ≤ 9223372036854775807) : (convert 69 9 (.slice (some ⟨g, 0, none⟩) N c)).run Tryz.prog w = .ok (.string ⟨p.toArray⟩) w := by
 have h := string_of_reads (P := Tryz.prog) (src := 69) (dst := 9) (c := c) Tryz.underlying69 Tryz.underlying5 Tryz.underlying9 (buf_reads h hp hN)
 rw [str_nums] at h
 exact h
theorem info5_ : (Tryz.prog.info? 5).map (fun i => (i.zero, i.size, i.bytes)) = some (some (.int .u8 0), 1, 1) := by kernel_rfl
theorem make5_ (w : World) (N : Nat) (hN : N ≤ 6291456) : (Instr.makeSlice 69 (.int .i64 (N : Int)) (.int .i64 (N : Int))).run Tryz.prog w = .ok (.slice (some ⟨w.heap.size, 0, none⟩) N N) (w.alloc (.cells (madeCells #[.int .u8 0] N) 5)) := by
 obtain ⟨i5, hi5, hz5⟩ := Option.map_eq_some_iff.1 info5_
 simp only [Prod.mk.injEq] at hz5
 obtain ⟨z1, z2, z3⟩ := hz5
 have h := run_make (P := Tryz.prog) (w := w) 69 5 i5 _ Tryz.underlying69 hi5 z1 (kl := .i64) (kc := .i64) (l := N) (c := N) (by omega) (by omega) (by rw [z3]; omega) (by omega)
 rw [z2] at h
 rw [show Value.cells (.int .u8 0) = #[.int .u8 0] from rfl] at h
 simpa using h
theorem low_src {h : Nat} {w : World} {q : List UInt8} (hl : LowRow h 5 w (numsOf q)) : ∀ j v, (q.map encB)[j]? = some v → w.cell? ((⟨h, 0, none⟩ : Addr).add j) = some v := by
 intro j v hv
 rw [add_plain]
 have hj : j < q.length := by
  have := (List.getElem?_eq_some_iff.1 hv).1
  simpa using this
 have h1 := (low_cell hl (j : Int) (by omega) (by simp [numsOf]; omega)).1
 rw [Int.toNat_natCast] at h1
 rw [h1]
 rw [List.getElem?_map, List.getElem?_eq_getElem hj] at hv
 simp only [Option.map_some, Option.some.injEq] at hv
 rw [← hv]
 simp [rd, numsOf, encB, hj]
/-- the byte's row (or none) in a world behind W. -/
theorem rep_here {gb : Nat} {W w' : World} {cells : Array Value} (hb : W.heap[gb]? = some (.cells cells 108 (0, 0))) (ht : ∀ b, b < 256 → RepAt W gb cells[b]? (tabN 0 b)) (hw : Below W.heap.size W w') (b : UInt8) :
  (escB b = [b] ∧ w'.cell? ⟨gb, b.toNat, none⟩ = some (.slice none 0 0)) ∨ (escB b ≠ [b] ∧ ∃ h c, w'.cell? ⟨gb, b.toNat, none⟩ = some (.slice (some ⟨h, 0, none⟩) (escB b).length c) ∧ h < W.heap.size ∧ LowRow h 5 w' (numsOf (escB b))) := by
 have hb' : w'.heap[gb]? = some (.cells cells 108 (0, 0)) := (hw.block gb (blk_lt hb)).trans hb
 rcases rep_byte ht b with ⟨e, h⟩ | ⟨e, h, c, hx, hg, hl⟩
 ·exact .inl ⟨e, (blk_cell hb' b.toNat).trans h⟩
 ·have hlt : h < W.heap.size := by
   obtain ⟨cur, hc, _⟩ := hl
   exact (Array.getElem?_eq_some_iff.1 hc).1
  exact .inr ⟨e, h, c, (blk_cell hb' b.toNat).trans hx, hlt, low_move hl (hw.block h hlt)⟩
def laid138_ren_ : Go.Shelf.Ren := ⟨fun | 138 => 118 | 143 => 121 | 195 => 119 | 217 => 123 | 218 => 120 | 219 => 122 | 224 => 125 | 225 => 124 | 266 => 127 | 267 => 126 | 314 => 128 | n => n, fun | 46 => 89 | 51 => 74 | 146 => 180 | n => n, fun | 1 => 2 | 3 => 0 | 4 => 1 | n => n⟩
set_option maxRecDepth 1000000 in
theorem laid138_ : Go.Proofs.Lays.n138 Tryz.prog laid138_ren_ := {
 mixed := by kernel_rfl
 f138 := Tryz.func118.trans (congrArg some (by kernel_rfl))
 f143 := Tryz.func121.trans (congrArg some (by kernel_rfl))
 f195 := Tryz.func119.trans (congrArg some (by kernel_rfl))
 f217 := Tryz.func123.trans (congrArg some (by kernel_rfl))
 f218 := Tryz.func120.trans (congrArg some (by kernel_rfl))
 f219 := Tryz.func122.trans (congrArg some (by kernel_rfl))
 f224 := Tryz.func125.trans (congrArg some (by kernel_rfl))
 f225 := Tryz.func124.trans (congrArg some (by kernel_rfl))
 f266 := Tryz.func127.trans (congrArg some (by kernel_rfl))
 f267 := Tryz.func126.trans (congrArg some (by kernel_rfl))
 f314 := Tryz.func128.trans (congrArg some (by kernel_rfl))
 t0 := Tryz.underlying0
 a0 := Tryz.isAgg0
 z0 := Tryz.sizeOf0
 v0 := Tryz.zeroValue0
 t3 := Tryz.underlying3
 a3 := Tryz.isAgg3
 z3 := Tryz.sizeOf3
 v3 := Tryz.zeroValue3
 t4 := Tryz.underlying4
 a4 := Tryz.isAgg4
 z4 := Tryz.sizeOf4
 v4 := Tryz.zeroValue4
 t5 := Tryz.underlying5
 a5 := Tryz.isAgg5
 z5 := Tryz.sizeOf5
 v5 := Tryz.zeroValue5
 t9 := Tryz.underlying9
 a9 := Tryz.isAgg9
 z9 := Tryz.sizeOf9
 v9 := Tryz.zeroValue9
 t46 := Tryz.underlying89
 a46 := Tryz.isAgg89
 z46 := Tryz.sizeOf89
 v46 := Tryz.zeroValue89
 t51 := Tryz.underlying74
 a51 := Tryz.isAgg74
 z51 := Tryz.sizeOf74
 v51 := Tryz.zeroValue74
 t146 := Tryz.underlying180
 a146 := Tryz.isAgg180
 z146 := Tryz.sizeOf180
 v146 := Tryz.zeroValue180
 g1 := by kernel_rfl }

theorem count_ (s : ByteArray) (c : UInt8) (w : World) : Calls Tryz.prog 118 #[.string s, .string ⟨#[c]⟩] w fun e w' => e = .returned (.int .i64 (s.data.toList.count c : Nat)) ∧ w' = w := Any.strings_Count_one laid138_ s c w
theorem repl116 (lo gb : Nat) (s : ByteArray) (W : World) (hs : s.size ≤ 1048576) (hR : Rep lo gb W) :
  Calls Tryz.prog 116 #[.pointer (some ⟨gb, 0, none⟩), .string s] W fun e w' => e = .returned (.string ⟨(escL s.data.toList).toArray⟩) ∧ Below W.heap.size W w' := by
 have q69n : ∀ (w : World) (a : Option Addr) (n c : Nat), (binOp .neq 69 (.slice a n c) (.slice none 0 0)).run Tryz.prog w = .ok (.bool (!a.isNone)) w := fun w a n c => by simp only [binOp]; simp [Op.equal, Op.maxDepth, Lib.run_equalIn_slice_nil w 9999 69 5 a n c 0 0 Tryz.underlying69]
 obtain ⟨cells, v, h0, hb, hcs, hcv, ht, hr⟩ := hR
 obtain ⟨A, cap, hv⟩ := Kd.R_slice hr
 have hv7 : v = .slice A 7 cap := hv
 subst hv7
 clear hv
 obtain ⟨l, hl⟩ : ∃ l, l = s.data.toList := ⟨_, rfl⟩
 have hsz : s.size = l.length := by rw [hl]; exact Lib.size_eq s
 have hc256 : W.cell? ⟨gb, 256, none⟩ = some (.slice A 7 cap) := (blk_cell hb 256).trans hcv
 have hgr : W.heap.size ≥ gb := Nat.le_of_lt (blk_lt hb)
 have HB := Aside0.mk hb
 have HT := Aside0.mk ht
 have HR := Aside0.mk hr
 have HS := Aside0.mk hs
 have HL := Aside0.mk hl
 have HSZ := Aside0.mk hsz
 rw [← hl]
 clear hb ht hr hs hl hsz hcs hcv h0 hgr
 by_cases c1 : 56 ≤ s.size
 ·have c1b : decide ((56 : Int) ≤ (s.size : Int)) = true := decide_eq_true (by omega)
  have C1 := Aside0.mk c1
  clear c1
  go_enter Tryz.func116, Tryz.ntmps116
  go_wp2
  clear c1b hc256
  go_loopg [5, 6, 32] 7 (fun kq v5 v6 v32 w' => ∃ b : Bool, v5 = .int .i64 ((l.length + gains l (7 - kq) : Nat) : Int) ∧ v6 = .bool b ∧ v32 = .int .i64 (7 - (kq : Int)) ∧ Aside0 (kq ≤ 7) ∧ Aside0 (b = false → ∀ m, m < 7 - kq → l.count (keyN m) = 0) ∧ Aside0 (Below W.heap.size W w'))
  case atStart =>
   refine ⟨false, ?_, rfl, rfl, ⟨Nat.le_refl _⟩, ⟨fun _ m hm => absurd hm (by omega)⟩, ⟨Below.refl _ _⟩⟩
   ·rw [HSZ.out]; rfl
  case round =>
   obtain ⟨b, rfl, rfl, rfl, HK, HE, HBEL⟩ := hrel
   cases gk with
   | zero =>
    obtain ⟨N, hN⟩ : ∃ N, N = (escL l).length := ⟨_, rfl⟩
    have he : ((l.length + gains l (7 - 0) : Nat)) = N := by rw [hN, Nat.sub_zero, gains_all]
    have HSAME : Aside0 (b = false → escL l = l) := ⟨fun hb => esc_same l (fun m hm => HE.out hb m (by omega))⟩
    rw [he]
    have HN := Aside0.mk hN
    clear he HE HK hN
    cases b with
    | false =>
     have hsame := HSAME.out rfl
     clear HSAME
     have HSM := Aside0.mk hsame
     clear hsame
     go_wp2
     go_ret
     exact ⟨(show Ending.returned (.string s) = _ by rw [HSM.out, HL.out]), HBEL.out⟩
    | true =>
     clear HSAME
     have HNB : Aside0 (N ≤ 6291456) := ⟨by have h1 := esc_le l; have h2 := HSZ.out; have h3 := HS.out; have h4 := HN.out; omega⟩
     have hmk := make5_ wr N HNB.out
     go_wp2
     obtain ⟨W1, hW1⟩ : ∃ W1, W1 = wr.alloc (.cells (madeCells #[.int .u8 0] N) 5) := ⟨_, rfl⟩
     obtain ⟨g, hg⟩ : ∃ g, g = wr.heap.size := ⟨_, rfl⟩
     rw [← hW1, ← hg]
     have HB1 : Aside0 (Below W.heap.size W W1) := ⟨by rw [hW1]; exact below_alloc HBEL.out _⟩
     have HBU : Aside0 (Buf g N [] W1) := ⟨buf_start #[.int .u8 0] (by rw [hW1, hg]; exact blk_new _ _)⟩
     have HGW : Aside0 (W.heap.size ≤ g) := ⟨by rw [hg]; exact HBEL.out.size⟩
     clear hW1 hg hmk
     go_loopg [13, 14] s.size (fun kq v13 v14 w' => v13 = .int .i64 (((escL (l.take (s.size - kq))).length : Nat) : Int) ∧ v14 = .int .i64 ((s.size : Int) - (kq : Int)) ∧ Aside0 (kq ≤ s.size) ∧ Aside0 (Below W.heap.size W w') ∧ Aside0 (Buf g N (escL (l.take (s.size - kq))) w'))
     case atStart =>
      refine ⟨?_, ?_, ⟨Nat.le_refl _⟩, HB1, ⟨?_⟩⟩
      ·simp [escL]
      ·simp
      ·rw [Nat.sub_self, List.take_zero]; exact HBU.out
     case round =>
      clear HB1 HBU HBEL
      obtain ⟨rfl, rfl, HK, HBEL, HBU⟩ := hrel
      cases gk with
      | zero =>
       have hs0 : ((s.size : Int) - ((0 : Nat) : Int)) = (s.size : Int) := by simp
       have hp : escL (l.take (s.size - 0)) = escL l := by rw [Nat.sub_zero, HSZ.out, List.take_length]
       rw [hp] at HBU ⊢
       rw [hs0]
       have b2_ : decide ((s.size : Int) < (s.size : Int)) = false := decide_eq_false (by omega)
       have hst := str_of (c := N) HBU.out HN.out.symm (Nat.le_trans HNB.out (by decide))
       clear hs0 hp
       go_wp2
       go_ret
       exact ⟨rfl, HBEL.out⟩
      | succ k2 =>
       obtain ⟨i, hi⟩ : ∃ i, i = s.size - (k2 + 1) := ⟨_, rfl⟩
       have hk := HK.out
       have hsz := HSZ.out
       have hS := HS.out
       have e1 : ((s.size : Int) - ((k2 + 1 : Nat) : Int)) = (i : Int) := by omega
       have hil : i < s.size := by omega
       rw [← hi] at HBU ⊢
       rw [e1]
       clear e1
       have b2 : decide ((i : Int) < (s.size : Int)) = true := decide_eq_true (by omega)
       obtain ⟨bb, hbb⟩ : ∃ bb, l[i]? = some bb := ⟨_, List.getElem?_eq_getElem (by omega)⟩
       have hgt : ∀ h, s[i]'h = bb := fun h => by
        have h1 := hbb
        rw [HL.out] at h1
        have h2 := List.getElem?_eq_some_iff.1 h1
        exact h2.2
       have p1 : 0 ≤ (i : Int) ∧ (i : Int) < (s.size : Int) := by omega
       have p3 : 0 ≤ (bb.toNat : Int) ∧ (bb.toNat : Int) < 256 := by have := bb.toNat_lt; omega
       have hi1 : s.size - k2 = i + 1 := by omega
       have T1 : Aside0 (escL (l.take (s.size - k2)) = escL (l.take i) ++ escB bb) := ⟨by rw [hi1]; exact esc_take l i bb hbb⟩
       have hle := esc_pre l i bb hbb
       have hel := esc_len bb
       rw [← HN.out] at hle
       obtain ⟨P, hP⟩ : ∃ P, P = escL (l.take i) := ⟨_, rfl⟩
       rw [← hP] at hle T1 HBU ⊢
       obtain ⟨j, hj⟩ : ∃ j, j = P.length := ⟨_, rfl⟩
       have hN6 := HNB.out
       rw [← hj] at hle ⊢
       have f1 : j + 1 ≤ 9223372036854775807 := by omega
       have f2 : i + 1 ≤ 9223372036854775807 := by omega
       have p5 : 0 ≤ (j : Int) ∧ (j : Int) < (N : Int) := by omega
       have HJ := Aside0.mk hj
       have HI1 := Aside0.mk hi1
       have W1_ : Aside0 (wrap64 ((i : Int) + 1) = ((i + 1 : Nat) : Int)) := ⟨by rw [← Int.natCast_succ]; exact wid_ (by omega) (by omega)⟩
       have p8 : 0 ≤ (j : Int) ∧ (j : Int) ≤ (N : Int) := by omega
       have HJN : Aside0 (j + (escB bb).length ≤ N) := ⟨hle⟩
       have HEL := Aside0.mk hel
       have RI : Aside0 ((i + 1 : Nat) = s.size - k2) := ⟨hi1.symm⟩
       rcases rep_here HB.out HT.out HBEL.out bb with ⟨e9, hc9⟩ | ⟨e9, h9, c9, hc9, hlt9, hl9⟩
       ·have E9 := Aside0.mk e9
        obtain ⟨⟨x9, hx9⟩, hz9⟩ := buf_cell HBU.out j (by omega)
        have w5 : wrap64 ((j : Int) + 1) = ((j + 1 : Nat) : Int) := by rw [← Int.natCast_succ]; exact wid_ (by omega) (by omega)
        clear hk hsz hS hil hbb hle hel hi hi1 e9 hP hj hN6 f1 f2
        have w1 := W1_.out
        go_wp2
        go_roundg k2
        case measure => omega
        case rel =>
         refine ⟨?_, ?_, ⟨by have := HK.out; omega⟩, ⟨below_set HBEL.out HGW.out⟩, ⟨?_⟩⟩
         ·rw [T1.out, E9.out, List.length_append, ← HJ.out]; exact congrArg _ w5
         ·have := RI.out; have := HK.out; congr 1; omega
         ·rw [HJ.out]; exact buf_put HBU.out (by have h1 := HJN.out; have h2 := HEL.out; have h3 := HJ.out; omega) bb _ (by rw [T1.out, E9.out])
       ·obtain ⟨m, hm⟩ : ∃ m, m = (escB bb).length := ⟨_, rfl⟩
        rw [← hm] at hc9 hle
        have W5 : Aside0 (wrap64 ((j : Int) + (m : Int)) = ((j + m : Nat) : Int)) := ⟨by rw [← Int.natCast_add]; exact wid_ (by omega) (by omega)⟩
        have HM := Aside0.mk hm
        have HL9 := Aside0.mk hl9
        have HC9 := Aside0.mk hc9
        clear hk hsz hS hil hbb hle hel hi hi1 e9 hP hj hN6 f1 f2 hm hl9
        go_wp2
        have hnj : ¬ (N = j) := fun e => by have h1 := HJN.out; have h2 := HEL.out.1; omega
        have HBE2 : Aside0 (Below W.heap.size W wr.drew) := ⟨HBEL.out.drew⟩
        have hl2 : LowRow h9 5 wr.drew (numsOf (escB bb)) := HL9.out
        obtain ⟨cur, hcur, hcl, hct⟩ := (show Buf g N P wr.drew from HBU.out)
        obtain ⟨cs, hcs⟩ : ∃ cs, cs = (escB bb).map encB := ⟨_, rfl⟩
        have hcsl : cs.length = m := by rw [hcs, List.length_map, ← HM.out]
        have HFIT : Aside0 (j + cs.length ≤ cur.length) := ⟨by rw [hcl, hcsl, HM.out]; exact HJN.out⟩
        have HNN : Aside0 (cs.length = Nat.min m (N - j)) := ⟨by have h1 := HJN.out; have h2 := HM.out; rw [hcsl]; exact (Nat.min_eq_left (by omega)).symm⟩
        have HPOS : Aside0 (0 < cs.length → some (⟨g, j, none⟩ : Addr) = some ⟨g, j, none⟩ ∧ ∃ ad, some (⟨h9, 0, none⟩ : Addr) = some ad ∧ ∀ j v, cs[j]? = some v → wr.drew.cell? (ad.add j) = some v) := ⟨fun _ => ⟨rfl, _, rfl, by rw [hcs]; exact low_src hl2⟩⟩
        have H1C : Aside0 (∀ v ∈ cs, v.oneCell' = true) := ⟨fun v hv => by rw [hcs] at hv; obtain ⟨x, _, rfl⟩ := List.mem_map.1 hv; rfl⟩
        have HINF : Aside0 ((Tryz.prog.info? 5).map (·.size) = some 1) := ⟨by kernel_rfl⟩
        have HCUR := Aside0.mk hcur
        have HCS := Aside0.mk hcs
        have HCL := Aside0.mk hcl
        have HCT := Aside0.mk hct
        have HCSL := Aside0.mk hcsl
        clear hcs hcl hct HBEL HL9 HC9 hl2 hcur hcsl
        go_region_law (refine step_copy_splice (P := Tryz.prog) rfl (.tmp 105) (.tmp 111) 69 69 rfl 5 Tryz.underlying69 HINF.out _ _ _ _ _ _ rfl rfl g j cur 5 HCUR.out cs HNN.out HPOS.out HFIT.out H1C.out W.heap.size W HBE2.out HGW.out ?_; intro V2 hg2 hb2; rw [HCSL.out]; have HG2 := Aside0.mk hg2.out; have HB2 := Aside0.mk hb2; clear hg2 hb2)
        have w1 := W1_.out
        have w5 := W5.out
        go_wp2
        go_roundg k2
        case measure => omega
        case rel =>
         refine ⟨?_, ?_, ⟨by have := HK.out; omega⟩, HB2, ⟨?_⟩⟩
         ·rw [T1.out, List.length_append, ← HJ.out, ← HM.out, Int.natCast_add]
         ·have := RI.out; have := HK.out; congr 1; omega
         ·exact buf_splice HCL.out HCT.out (by rw [← HJ.out]; exact HJN.out) T1.out (by rw [← HJ.out, ← HCS.out]; exact HG2.out)
   | succ k1 =>
    obtain ⟨i, hi⟩ : ∃ i, i = 7 - (k1 + 1) := ⟨_, rfl⟩
    have hk := HK.out
    have e1 : ((7 : Int) - ((k1 + 1 : Nat) : Int)) = (i : Int) := by omega
    have hil : i < 7 := by omega
    rw [← hi] at HE ⊢
    rw [e1]
    clear e1
    have b1 : decide ((i : Int) < (7 : Int)) = true := decide_eq_true (by omega)
    have p1 : 0 ≤ (i : Int) ∧ (i : Int) < 7 := by omega
    have w1 : wrap64 ((i : Int) + 1) = ((i + 1 : Nat) : Int) := by rw [wid_ (by omega) (by omega)]; omega
    obtain ⟨bb, hbb⟩ : ∃ bb, bb = keyN i := ⟨_, rfl⟩
    obtain ⟨hdk, hne⟩ := done_key i hil
    rw [← hbb] at hdk hne
    obtain ⟨ad, e2, hx⟩ : ∃ ad : Addr, A = some ad ∧ wr.cell? (ad.add i) = some (.string ⟨#[bb]⟩) := by
     have hC := (Kd.R_reads' HR.out).2.2
     obtain ⟨ad', c, e, _, hK, hcc⟩ := Kd.C_get hC (⟨#[]⟩ : ByteArray) (i : Int) (by omega) (by simp [doneL, entries]; omega)
     have h := hcc 0 (.string ⟨#[bb]⟩) (by rw [show c = [Value.string ((doneL 0).getD (i : Int).toNat ⟨#[]⟩)] from hK, Int.toNat_natCast, List.getD_eq_getElem?_getD, hdk]; rfl)
     have e3 : (i : Int).toNat * Kd.string.sz + 0 = i := by show (i : Int).toNat * 1 + 0 = i; omega
     rw [e3] at h
     exact ⟨ad', e, (HBEL.out.cell (World.block_lt_of_cell? W _ h)).trans h⟩
    have HX := Aside0.mk hx
    subst e2
    have hle := l.count_le_length (a := bb)
    have hsz := HSZ.out
    have hS := HS.out
    have hg1 := gains_le l i (by omega)
    have hel := esc_len bb
    have G1 : Aside0 (gains l (i + 1) = gains l i + l.count bb * ((escB bb).length - 1)) := ⟨by rw [gains, gain, ← hbb]⟩
    have hq5 : l.count bb * ((escB bb).length - 1) ≤ 5 * l.length := by have h := gain_le l i; rw [gain, ← hbb] at h; exact h
    have HI1 : Aside0 (7 - k1 = i + 1) := ⟨by omega⟩
    have HIS := Aside0.mk hi
    have HBB := Aside0.mk hbb
    obtain ⟨n, hn⟩ : ∃ n, n = l.count bb := ⟨_, rfl⟩
    have HNC : Aside0 (s.data.toList.count bb = n) := ⟨by rw [hn, HL.out]⟩
    have HNL : Aside0 (l.count bb = n) := ⟨hn.symm⟩
    have hbl : ∀ m, m < i + 1 → m < i ∨ m = i := fun m hm => by omega
    have HBL := Aside0.mk hbl
    rcases Nat.eq_zero_or_pos n with hn0 | hn0
    ·subst hn0
     have c2b : (((0 : Nat) : Int) != 0) = false := rfl
     obtain ⟨M, hM⟩ : ∃ M, M = l.length + gains l i := ⟨_, rfl⟩
     rw [← hM]
     have G2 : Aside0 (l.length + gains l (7 - k1) = M) := ⟨by rw [HI1.out, G1.out, ← hn, Nat.zero_mul, Nat.add_zero, hM]⟩
     clear hbb hdk hne hle hsz hS hg1 hel hq5 hn hbl hk hi hil hM
     go_wp2_with (go_at_call 118; refine (count_ s bb wr).mono ?_; rintro e w2 ⟨rfl, rfl⟩; rw [HNC.out])
     go_roundg k1
     case measure => omega
     case rel =>
      refine ⟨b, ?_, rfl, ?_, ⟨by have := HK.out; omega⟩, ⟨fun hb m hm => ?_⟩, HBEL⟩
      ·rw [G2.out]
      ·have := HI1.out; have := HK.out; congr 1; omega
      ·rw [HI1.out] at hm
       rcases HBL.out m hm with h | h
       ·exact HE.out hb m h
       ·rw [h, ← HBB.out]; exact HNL.out
    ·have c2b : ((n : Int) != 0) = true := bne_iff_ne.mpr (by omega)
     rcases rep_here HB.out HT.out HBEL.out bb with ⟨e9, _⟩ | ⟨e9, h9, c9, hc9, _, _⟩
     ·exact absurd e9 hne
     ·obtain ⟨m, hm⟩ : ∃ m, m = (escB bb).length := ⟨_, rfl⟩
      obtain ⟨M, hM⟩ : ∃ M, M = l.length + gains l i := ⟨_, rfl⟩
      obtain ⟨q, hq⟩ : ∃ q, q = m - 1 := ⟨_, rfl⟩
      obtain ⟨p, hp⟩ : ∃ p, p = n * q := ⟨_, rfl⟩
      rw [← hn, ← hm, ← hq, ← hp] at hq5
      have HP := Aside0.mk hp
      clear hp
      have f1 : p ≤ 9223372036854775807 := by omega
      have f2 : M + p ≤ 9223372036854775807 := by omega
      have f3 : (m : Int) - 1 = (q : Int) := by omega
      have f4 : q ≤ 9223372036854775807 := by omega
      have w2 : wrap64 ((m : Int) - 1) = (q : Int) := by rw [f3]; exact wid_ (by omega) (by omega)
      have W2 := Aside0.mk w2
      clear w2 f3
      have w5 : wrap64 (p : Int) = (p : Int) := wid_ (by omega) (by omega)
      have W5 := Aside0.mk w5
      clear w5
      have w4 : wrap64 ((M : Int) + (p : Int)) = ((M + p : Nat) : Int) := by rw [← Int.natCast_add]; exact wid_ (by omega) (by omega)
      have w5 := W5.out
      have w2 := W2.out
      have w3 : wrap64 ((n : Int) * (q : Int)) = (p : Int) := by rw [← Int.natCast_mul, ← HP.out]; exact w5
      have R1 : Aside0 (l.length + gains l (7 - k1) = M + p) := ⟨by rw [HI1.out, G1.out, hM, ← hm, ← hn, ← hq, ← HP.out, Nat.add_assoc]⟩
      have hg0 : ∀ h, (⟨#[bb]⟩ : ByteArray)[0]'h = bb := fun _ => rfl
      have p3 : 0 ≤ (bb.toNat : Int) ∧ (bb.toNat : Int) < 256 := by have := bb.toNat_lt; omega
      rw [← hm] at hc9
      rw [← hM]
      have HC9 := Aside0.mk hc9
      clear hbb hdk hne hle hsz hS hg1 hel hq5 hn hbl hk hi hil e9 hm hM hn0 hq w5 f1 f2 f4
      go_wp2_with (go_at_call 118; refine (count_ s bb wr).mono ?_; rintro e w2 ⟨rfl, rfl⟩; rw [HNC.out])
      go_quiet (fail)
      have HBE2 : Aside0 (Below W.heap.size W (w2.drewN nq)) := ⟨HBEL.out.trans ⟨rfl, rfl, rfl, Nat.le_refl _, fun _ _ => rfl⟩⟩
      clear hx hc9 hg0
      go_wp2
      go_roundg k1
      case measure => omega
      case rel =>
       refine ⟨true, ?_, rfl, ?_, ⟨by have := HK.out; omega⟩, ⟨fun hb => by cases hb⟩, HBE2⟩
       ·rw [R1.out]; exact congrArg _ w4
       ·have := HI1.out; have := HK.out; congr 1; omega
 ·have c1b : decide ((56 : Int) ≤ (s.size : Int)) = false := decide_eq_false (by omega)
  have C1 := Aside0.mk c1
  clear c1
  go_enter Tryz.func116, Tryz.ntmps116
  go_wp2
  clear c1b hc256
  go_loopg [5, 6, 10] s.size (fun kq v5 v6 v10 w' => ∃ b : Bool, v5 = .int .i64 (((escL (l.take (s.size - kq))).length + kq : Nat) : Int) ∧ v6 = .bool b ∧ v10 = .int .i64 ((s.size : Int) - (kq : Int)) ∧ Aside0 (kq ≤ s.size) ∧ Aside0 (b = false → escL (l.take (s.size - kq)) = l.take (s.size - kq)) ∧ W = w')
  case atStart =>
   refine ⟨false, ?_, rfl, ?_, ⟨Nat.le_refl _⟩, ⟨fun _ => by simp [escL]⟩, rfl⟩
   ·simp [escL]
   ·simp
  case round =>
   obtain ⟨b, rfl, rfl, rfl, HK, HE, rfl⟩ := hrel
   cases gk with
   | zero =>
    have hbel := Below.refl W.heap.size W
    obtain ⟨N, hN⟩ : ∃ N, N = (escL l).length := ⟨_, rfl⟩
    have he : ((escL (l.take (s.size - 0))).length + 0 : Nat) = N := by rw [hN, Nat.sub_zero, HSZ.out, List.take_length, Nat.add_zero]
    have hs0 : ((s.size : Int) - ((0 : Nat) : Int)) = (s.size : Int) := by simp
    have HSAME : Aside0 (b = false → escL l = l) := ⟨fun hb => by have h := HE.out hb; rw [Nat.sub_zero, HSZ.out, List.take_length] at h; exact h⟩
    rw [he, hs0]
    have b1_ : decide ((s.size : Int) < (s.size : Int)) = false := decide_eq_false (by omega)
    have HN := Aside0.mk hN
    have HBEL := Aside0.mk hbel
    clear he hs0 HE HK hN hbel
    cases b with
    | false =>
     have hsame := HSAME.out rfl
     clear HSAME
     have HSM := Aside0.mk hsame
     clear hsame
     go_wp2
     go_ret
     exact ⟨(show Ending.returned (.string s) = _ by rw [HSM.out, HL.out]), HBEL.out⟩
    | true =>
     clear HSAME
     have HNB : Aside0 (N ≤ 6291456) := ⟨by have h1 := esc_le l; have h2 := HSZ.out; have h3 := HS.out; have h4 := HN.out; omega⟩
     have hmk := make5_ W N HNB.out
     go_wp2
     obtain ⟨W1, hW1⟩ : ∃ W1, W1 = W.alloc (.cells (madeCells #[.int .u8 0] N) 5) := ⟨_, rfl⟩
     obtain ⟨g, hg⟩ : ∃ g, g = W.heap.size := ⟨_, rfl⟩
     rw [← hW1, ← hg]
     have HB1 : Aside0 (Below W.heap.size W W1) := ⟨by rw [hW1]; exact below_alloc HBEL.out _⟩
     have HBU : Aside0 (Buf g N [] W1) := ⟨buf_start #[.int .u8 0] (by rw [hW1, hg]; exact blk_new _ _)⟩
     have HGW : Aside0 (W.heap.size ≤ g) := ⟨by rw [hg]; exact HBEL.out.size⟩
     clear hW1 hg hmk
     go_loopg [13, 14] s.size (fun kq v13 v14 w' => v13 = .int .i64 (((escL (l.take (s.size - kq))).length : Nat) : Int) ∧ v14 = .int .i64 ((s.size : Int) - (kq : Int)) ∧ Aside0 (kq ≤ s.size) ∧ Aside0 (Below W.heap.size W w') ∧ Aside0 (Buf g N (escL (l.take (s.size - kq))) w'))
     case atStart =>
      refine ⟨?_, ?_, ⟨Nat.le_refl _⟩, HB1, ⟨?_⟩⟩
      ·simp [escL]
      ·simp
      ·rw [Nat.sub_self, List.take_zero]; exact HBU.out
     case round =>
      clear HB1 HBU HBEL
      obtain ⟨rfl, rfl, HK, HBEL, HBU⟩ := hrel
      cases gk with
      | zero =>
       have hs0 : ((s.size : Int) - ((0 : Nat) : Int)) = (s.size : Int) := by simp
       have hp : escL (l.take (s.size - 0)) = escL l := by rw [Nat.sub_zero, HSZ.out, List.take_length]
       rw [hp] at HBU ⊢
       rw [hs0]
       have b2_ : decide ((s.size : Int) < (s.size : Int)) = false := decide_eq_false (by omega)
       have hst := str_of (c := N) HBU.out HN.out.symm (Nat.le_trans HNB.out (by decide))
       clear hs0 hp
       go_wp2
       go_ret
       exact ⟨rfl, HBEL.out⟩
      | succ k2 =>
       obtain ⟨i, hi⟩ : ∃ i, i = s.size - (k2 + 1) := ⟨_, rfl⟩
       have hk := HK.out
       have hsz := HSZ.out
       have hS := HS.out
       have e1 : ((s.size : Int) - ((k2 + 1 : Nat) : Int)) = (i : Int) := by omega
       have hil : i < s.size := by omega
       rw [← hi] at HBU ⊢
       rw [e1]
       clear e1
       have b2 : decide ((i : Int) < (s.size : Int)) = true := decide_eq_true (by omega)
       obtain ⟨bb, hbb⟩ : ∃ bb, l[i]? = some bb := ⟨_, List.getElem?_eq_getElem (by omega)⟩
       have hgt : ∀ h, s[i]'h = bb := fun h => by
        have h1 := hbb
        rw [HL.out] at h1
        have h2 := List.getElem?_eq_some_iff.1 h1
        exact h2.2
       have p1 : 0 ≤ (i : Int) ∧ (i : Int) < (s.size : Int) := by omega
       have p3 : 0 ≤ (bb.toNat : Int) ∧ (bb.toNat : Int) < 256 := by have := bb.toNat_lt; omega
       have hi1 : s.size - k2 = i + 1 := by omega
       have T1 : Aside0 (escL (l.take (s.size - k2)) = escL (l.take i) ++ escB bb) := ⟨by rw [hi1]; exact esc_take l i bb hbb⟩
       have hle := esc_pre l i bb hbb
       have hel := esc_len bb
       rw [← HN.out] at hle
       obtain ⟨P, hP⟩ : ∃ P, P = escL (l.take i) := ⟨_, rfl⟩
       rw [← hP] at hle T1 HBU ⊢
       obtain ⟨j, hj⟩ : ∃ j, j = P.length := ⟨_, rfl⟩
       have hN6 := HNB.out
       rw [← hj] at hle ⊢
       have f1 : j + 1 ≤ 9223372036854775807 := by omega
       have f2 : i + 1 ≤ 9223372036854775807 := by omega
       have p5 : 0 ≤ (j : Int) ∧ (j : Int) < (N : Int) := by omega
       have HJ := Aside0.mk hj
       have HI1 := Aside0.mk hi1
       have W1_ : Aside0 (wrap64 ((i : Int) + 1) = ((i + 1 : Nat) : Int)) := ⟨by rw [← Int.natCast_succ]; exact wid_ (by omega) (by omega)⟩
       have p8 : 0 ≤ (j : Int) ∧ (j : Int) ≤ (N : Int) := by omega
       have HJN : Aside0 (j + (escB bb).length ≤ N) := ⟨hle⟩
       have HEL := Aside0.mk hel
       have RI : Aside0 ((i + 1 : Nat) = s.size - k2) := ⟨hi1.symm⟩
       rcases rep_here HB.out HT.out HBEL.out bb with ⟨e9, hc9⟩ | ⟨e9, h9, c9, hc9, hlt9, hl9⟩
       ·have E9 := Aside0.mk e9
        obtain ⟨⟨x9, hx9⟩, hz9⟩ := buf_cell HBU.out j (by omega)
        have w5 : wrap64 ((j : Int) + 1) = ((j + 1 : Nat) : Int) := by rw [← Int.natCast_succ]; exact wid_ (by omega) (by omega)
        clear hk hsz hS hil hbb hle hel hi hi1 e9 hP hj hN6 f1 f2
        have w1 := W1_.out
        go_wp2
        go_roundg k2
        case measure => omega
        case rel =>
         refine ⟨?_, ?_, ⟨by have := HK.out; omega⟩, ⟨below_set HBEL.out HGW.out⟩, ⟨?_⟩⟩
         ·rw [T1.out, E9.out, List.length_append, ← HJ.out]; exact congrArg _ w5
         ·have := RI.out; have := HK.out; congr 1; omega
         ·rw [HJ.out]; exact buf_put HBU.out (by have h1 := HJN.out; have h2 := HEL.out; have h3 := HJ.out; omega) bb _ (by rw [T1.out, E9.out])
       ·obtain ⟨m, hm⟩ : ∃ m, m = (escB bb).length := ⟨_, rfl⟩
        rw [← hm] at hc9 hle
        have W5 : Aside0 (wrap64 ((j : Int) + (m : Int)) = ((j + m : Nat) : Int)) := ⟨by rw [← Int.natCast_add]; exact wid_ (by omega) (by omega)⟩
        have HM := Aside0.mk hm
        have HL9 := Aside0.mk hl9
        have HC9 := Aside0.mk hc9
        clear hk hsz hS hil hbb hle hel hi hi1 e9 hP hj hN6 f1 f2 hm hl9
        go_wp2
        have hnj : ¬ (N = j) := fun e => by have h1 := HJN.out; have h2 := HEL.out.1; omega
        have HBE2 : Aside0 (Below W.heap.size W wr.drew) := ⟨HBEL.out.drew⟩
        have hl2 : LowRow h9 5 wr.drew (numsOf (escB bb)) := HL9.out
        obtain ⟨cur, hcur, hcl, hct⟩ := (show Buf g N P wr.drew from HBU.out)
        obtain ⟨cs, hcs⟩ : ∃ cs, cs = (escB bb).map encB := ⟨_, rfl⟩
        have hcsl : cs.length = m := by rw [hcs, List.length_map, ← HM.out]
        have HFIT : Aside0 (j + cs.length ≤ cur.length) := ⟨by rw [hcl, hcsl, HM.out]; exact HJN.out⟩
        have HNN : Aside0 (cs.length = Nat.min m (N - j)) := ⟨by have h1 := HJN.out; have h2 := HM.out; rw [hcsl]; exact (Nat.min_eq_left (by omega)).symm⟩
        have HPOS : Aside0 (0 < cs.length → some (⟨g, j, none⟩ : Addr) = some ⟨g, j, none⟩ ∧ ∃ ad, some (⟨h9, 0, none⟩ : Addr) = some ad ∧ ∀ j v, cs[j]? = some v → wr.drew.cell? (ad.add j) = some v) := ⟨fun _ => ⟨rfl, _, rfl, by rw [hcs]; exact low_src hl2⟩⟩
        have H1C : Aside0 (∀ v ∈ cs, v.oneCell' = true) := ⟨fun v hv => by rw [hcs] at hv; obtain ⟨x, _, rfl⟩ := List.mem_map.1 hv; rfl⟩
        have HINF : Aside0 ((Tryz.prog.info? 5).map (·.size) = some 1) := ⟨by kernel_rfl⟩
        have HCUR := Aside0.mk hcur
        have HCS := Aside0.mk hcs
        have HCL := Aside0.mk hcl
        have HCT := Aside0.mk hct
        have HCSL := Aside0.mk hcsl
        clear hcs hcl hct HBEL HL9 HC9 hl2 hcur hcsl
        go_region_law (refine step_copy_splice (P := Tryz.prog) rfl (.tmp 105) (.tmp 111) 69 69 rfl 5 Tryz.underlying69 HINF.out _ _ _ _ _ _ rfl rfl g j cur 5 HCUR.out cs HNN.out HPOS.out HFIT.out H1C.out W.heap.size W HBE2.out HGW.out ?_; intro V2 hg2 hb2; rw [HCSL.out]; have HG2 := Aside0.mk hg2.out; have HB2 := Aside0.mk hb2; clear hg2 hb2)
        have w1 := W1_.out
        have w5 := W5.out
        go_wp2
        go_roundg k2
        case measure => omega
        case rel =>
         refine ⟨?_, ?_, ⟨by have := HK.out; omega⟩, HB2, ⟨?_⟩⟩
         ·rw [T1.out, List.length_append, ← HJ.out, ← HM.out, Int.natCast_add]
         ·have := RI.out; have := HK.out; congr 1; omega
         ·exact buf_splice HCL.out HCT.out (by rw [← HJ.out]; exact HJN.out) T1.out (by rw [← HJ.out, ← HCS.out]; exact HG2.out)
   | succ k1 =>
    obtain ⟨i, hi⟩ : ∃ i, i = s.size - (k1 + 1) := ⟨_, rfl⟩
    have hk := HK.out
    have hsz := HSZ.out
    have hS := HS.out
    have e1 : ((s.size : Int) - ((k1 + 1 : Nat) : Int)) = (i : Int) := by omega
    have hil : i < s.size := by omega
    rw [← hi] at HE ⊢
    rw [e1]
    clear e1
    have b1 : decide ((i : Int) < (s.size : Int)) = true := decide_eq_true (by omega)
    obtain ⟨bb, hbb⟩ : ∃ bb, l[i]? = some bb := ⟨_, List.getElem?_eq_getElem (by omega)⟩
    have hgt : ∀ h, s[i]'h = bb := fun h => by
     have h1 := hbb
     rw [HL.out] at h1
     have h2 := List.getElem?_eq_some_iff.1 h1
     exact h2.2
    have p1 : 0 ≤ (i : Int) ∧ (i : Int) < (s.size : Int) := by omega
    have p3 : 0 ≤ (bb.toNat : Int) ∧ (bb.toNat : Int) < 256 := by have := bb.toNat_lt; omega
    have w1 : wrap64 ((i : Int) + 1) = ((i + 1 : Nat) : Int) := by rw [wid_ (by omega) (by omega)]; omega
    have htk := esc_take l i bb hbb
    have hle := esc_pre l i bb hbb
    have hle2 := esc_le l
    have hel := esc_len bb
    have hi1 : s.size - k1 = i + 1 := by omega
    have T1 := Aside0.mk htk
    have HI1 := Aside0.mk hi1
    have HIS := Aside0.mk hi
    have HBB := Aside0.mk hbb
    rcases rep_here HB.out HT.out (Below.refl W.heap.size W) bb with ⟨e9, hc9⟩ | ⟨e9, h9, c9, hc9, _, _⟩
    ·have E9 := Aside0.mk e9
     clear hk hsz hS hil hbb htk hle hle2 hel hi hi1 e9
     go_wp2
     go_roundg k1
     case measure => omega
     case rel =>
      refine ⟨b, ?_, rfl, ?_, ⟨by have := HK.out; omega⟩, ⟨fun hb => ?_⟩, rfl⟩
      ·rw [HI1.out, T1.out, E9.out, List.length_append]; congr 1; simp; omega
      ·have := HI1.out; have := HK.out; congr 1; omega
      ·rw [HI1.out, T1.out, E9.out, HE.out hb, List.take_add_one, HBB.out]; rfl
    ·obtain ⟨m, hm⟩ : ∃ m, m = (escB bb).length := ⟨_, rfl⟩
     obtain ⟨M, hM⟩ : ∃ M, M = (escL (l.take i)).length + (k1 + 1) := ⟨_, rfl⟩
     have w2 : wrap64 ((m : Int) - 1) = ((m - 1 : Nat) : Int) := by rw [wid_ (by omega) (by omega)]; omega
     have w3 : wrap64 ((M : Int) + ((m - 1 : Nat) : Int)) = ((M + (m - 1) : Nat) : Int) := by rw [wid_ (by omega) (by omega)]; omega
     have R1 : Aside0 ((escL (l.take (s.size - k1))).length + k1 = M + (m - 1)) := ⟨by rw [hi1, htk, List.length_append, hM, hm]; have := hel.1; omega⟩
     rw [← hM]
     rw [← hm] at hc9
     clear hk hsz hS hil hbb htk hle hle2 hel hi hi1 e9 hm hM
     go_wp2
     go_roundg k1
     case measure => omega
     case rel =>
      refine ⟨true, ?_, rfl, ?_, ⟨by have := HK.out; omega⟩, ⟨fun hb => by cases hb⟩, rfl⟩
      ·rw [R1.out]; exact congrArg _ w3
      ·have := HI1.out; have := HK.out; congr 1; omega
theorem rep_move {lo gb : Nat} {W W' : World} (h : Rep lo gb W) (hm : ∀ k, lo ≤ k → k < W.heap.size → W'.heap[k]? = W.heap[k]?) : Rep lo gb W' := by
 obtain ⟨cells, v, h0, hb, hs, hv, ht, hr⟩ := h
 refine ⟨cells, v, h0, (hm gb h0 (blk_lt hb)).trans hb, hs, hv, fun b hb' => ?_, Kd.R_mono (Kd.R_move (Kd.R_bound hr) (fun k hk => hm k hk.2.1 hk.2.2.1)) (fun _ _ => trivial)⟩
 have := ht b hb'
 cases h9 : tabN 0 b with
 | none => rw [h9] at this; exact this
 | some bs =>
  rw [h9] at this
  obtain ⟨h, c, hx, hgt, hl⟩ := this
  refine ⟨h, c, hx, hgt, low_move hl ?_⟩
  obtain ⟨cur, hc, _⟩ := hl
  exact hm h (by omega) (Array.getElem?_eq_some_iff.1 hc).1
theorem rep_of_inv {w W : World} (h : Inv w (w.heap.size + 1) 0 W) : Rep w.heap.size (w.heap.size + 1) W := by
 obtain ⟨cells, v, hb, hs, hv, ht, hr, hbel⟩ := h
 exact ⟨cells, v, by omega, hb, hs, hv, ht, Kd.R_mono hr (fun _ _ => trivial)⟩
theorem repl43 (g ga c : Nat) (s : ByteArray) (w : World) (hs : s.size ≤ 1048576) (hb : w.heap[g]? = some (.cells #[.int .u32 0, .int .i32 0, .int .u32 0, .nilIface, .slice (some ⟨ga, 0, none⟩) 14 c] 86 (0, 0))) (hga : ga ≠ g) (hc : ∀ j, j < 14 → w.cell? ⟨ga, j, none⟩ = some (.string (oldnew.getD j ⟨#[]⟩))) :
  Calls Tryz.prog 43 #[.pointer (some ⟨g, 0, none⟩), .string s] w fun e w' => e = .returned (.string ⟨(escL s.data.toList).toArray⟩) ∧ Below g w w' := by
 have hmf : ∀ (fn : Fn) (first cap : Array Value) (w : World), (Instr.makeFunc fn first cap).run Tryz.prog w = .ok (.func fn first cap) w := fun _ _ _ _ => rfl
 have h0 : w.cell? ⟨g, 0, none⟩ = some (.int .u32 0) := (blk_cell hb 0).trans rfl
 have h1 : w.cell? ⟨g, 1, none⟩ = some (.int .i32 0) := (blk_cell hb 1).trans rfl
 -- the world in which the reader is built: the lock held
 obtain ⟨W0, hW0⟩ : ∃ W0, W0 = w.setCell ⟨g, 1, none⟩ (.int .i32 1) := ⟨_, rfl⟩
 have hb0 : W0.heap[g]? = some (.cells #[.int .u32 0, .int .i32 1, .int .u32 0, .nilIface, .slice (some ⟨ga, 0, none⟩) 14 c] 86 (0, 0)) := by rw [hW0]; exact blk_put hb 1 _ rfl
 have hc0 : ∀ j, j < 14 → W0.cell? ⟨ga, j, none⟩ = some (.string (oldnew.getD j ⟨#[]⟩)) := fun j hj => (cell_old (by rw [hW0]; exact Below.heap_setCell w _ _ ga (by show ga ≠ g; exact hga)) j).trans (hc j hj)
 have hbo := build_once g ga c .nilIface W0 ((blk_cell hb0 3).trans rfl) ((blk_cell hb0 4).trans rfl) (fun i => blk_frozen hb0 i) hc0
 have HR : ∀ w', (∃ w1, Inv W0 (W0.heap.size + 1) 0 w1 ∧ w' = (w1.setCell ⟨g, 3, none⟩ (.iface 109 (.pointer (some ⟨W0.heap.size + 1, 0, none⟩)))).setCell ⟨g, 4, none⟩ (.slice none 0 0)) →
   w'.heap[g]? = some (.cells #[.int .u32 0, .int .i32 1, .int .u32 0, .iface 109 (.pointer (some ⟨W0.heap.size + 1, 0, none⟩)), .slice none 0 0] 86 (0, 0)) ∧ Rep W0.heap.size (W0.heap.size + 1) w' ∧ Below g W0 w' := by
  rintro w' ⟨w1, hi, rfl⟩
  have hbel : Below W0.heap.size W0 w1 := by obtain ⟨_, _, _, _, _, _, _, h⟩ := hi; exact h
  have hg1 : w1.heap[g]? = _ := (hbel.block g (blk_lt hb0)).trans hb0
  refine ⟨blk_put (blk_put hg1 3 _ rfl) 4 _ rfl, rep_move (rep_of_inv hi) (fun k hk hlt => ?_), ?_⟩
  ·have hlt0 := blk_lt hb0
   exact (Below.heap_setCell _ _ _ k (by show k ≠ g; omega)).trans (Below.heap_setCell _ _ _ k (by show k ≠ g; omega))
  ·exact ((hbel.mono (Nat.le_of_lt (blk_lt hb0))).setCell (Nat.le_refl g) _).setCell (Nat.le_refl g) _
 have hdo := once_do g (fun w' => ∃ w1, Inv W0 (W0.heap.size + 1) 0 w1 ∧ w' = (w1.setCell ⟨g, 3, none⟩ (.iface 109 (.pointer (some ⟨W0.heap.size + 1, 0, none⟩)))).setCell ⟨g, 4, none⟩ (.slice none 0 0)) w h0 h1 (blk_frozen hb 1) (by rw [← hW0]; exact hbo) (fun w' hw => by
  obtain ⟨k1, _, _⟩ := HR w' hw
  exact ⟨⟨_, (blk_cell k1 0).trans rfl⟩, (blk_cell k1 1).trans rfl, blk_frozen k1 0, blk_frozen k1 1⟩)
 have HDO := Aside0.mk hdo
 have HRR := Aside0.mk HR
 have HW0 := Aside0.mk hW0
 have HB := Aside0.mk hb
 clear hdo HR hbo hc0 hb0 h0 h1 hc hb hW0
 have hm : ∀ (w : World) (p : Option Addr), (method 282 109 (.pointer p) "Replace").run Tryz.prog w = .ok (116, .pointer p) w := fun _ _ => by kernel_rfl
 go_enter Tryz.func43, Tryz.ntmps43
 have HAFT : ∀ w' w1 : World, (∃ w1', Inv W0 (W0.heap.size + 1) 0 w1' ∧ w1 = (w1'.setCell ⟨g, 3, none⟩ (.iface 109 (.pointer (some ⟨W0.heap.size + 1, 0, none⟩)))).setCell ⟨g, 4, none⟩ (.slice none 0 0)) → w' = (w1.drew.setCell ⟨g, 0, none⟩ (.int .u32 1)).setCell ⟨g, 1, none⟩ (.int .i32 0) →
   w'.cell? ⟨g, 3, none⟩ = some (.iface 109 (.pointer (some ⟨W0.heap.size + 1, 0, none⟩))) ∧ Rep W0.heap.size (W0.heap.size + 1) w' ∧ Below g w w' := by
  intro w' w1 hR1 hw'
  obtain ⟨k1, k2, k3⟩ := HRR.out _ hR1
  have hlt : g < W0.heap.size := by rw [HW0.out]; simpa [World.setCell] using blk_lt HB.out
  have kb : w'.heap[g]? = some (.cells #[.int .u32 1, .int .i32 0, .int .u32 0, .iface 109 (.pointer (some ⟨W0.heap.size + 1, 0, none⟩)), .slice none 0 0] 86 (0, 0)) := by rw [hw']; exact blk_put (blk_put (blk_drew k1) 0 _ rfl) 1 _ rfl
  refine ⟨(blk_cell kb 3).trans rfl, rep_move k2 (fun k hk hlt2 => ?_), ?_⟩
  ·rw [hw']
   exact (Below.heap_setCell _ _ _ k (by show k ≠ g; omega)).trans ((Below.heap_setCell _ _ _ k (by show k ≠ g; omega)).trans rfl)
  ·rw [hw']
   have h9 : Below g w W0 := by rw [HW0.out]; exact (Below.refl g w).setCell (Nat.le_refl g) _
   exact ((h9.trans k3).drew.setCell (Nat.le_refl g) _).setCell (Nat.le_refl g) _
 have HA := Aside0.mk HAFT
 clear HAFT
 go_wp2_with (first | (go_at_call 49; refine HDO.out.mono ?_; rintro e w' ⟨rfl, w1, hR1, hw'⟩; obtain ⟨k1, k2, k3⟩ := HA.out _ _ hR1 hw'; have K2 := Aside0.mk k2; have K3 := Aside0.mk k3; clear k2 k3 hR1 hw') | (go_at_call 116; refine (repl116 _ _ s _ hs K2.out).mono ?_; rintro e w2 ⟨rfl, hb2⟩; have K4 := Aside0.mk hb2; clear hb2))
 go_ret
 exact ⟨rfl, K3.out.trans (K4.out.mono (Nat.le_of_lt (by have h9 := K3.out.size; have h8 := blk_lt HB.out; omega)))⟩
theorem row_on {W : World} {a : Nat} (hb : W.heap[a]? = some (.cells (oldnew.map Value.string).toArray 9 (0, 0))) : Kd.C Kd.string W (some ⟨a, 0, none⟩) 14 oldnew := by
 refine ⟨rfl, by decide, fun _ => ⟨_, rfl, fun j p hj => ⟨[.string p], rfl, rfl, fun i u hu => ?_⟩⟩⟩
 have hi : i = 0 := by
  rcases i with _ | i
  ·rfl
  ·simp at hu
 subst hi
 simp only [List.getElem?_cons_zero, Option.some.injEq] at hu
 subst hu
 show W.cell? ((⟨a, 0, none⟩ : Addr).add (j * 1 + 0)) = _
 rw [add_plain, Nat.mul_one, Nat.add_zero]
 refine (blk_cell hb j).trans ?_
 rw [List.getElem?_toArray, List.getElem?_map, hj]
 rfl
theorem escaped_ (s : ByteArray) (w : World) (hs : s.size ≤ 1048576) :
  Calls Tryz.prog 29 #[.string s] w fun e w' => e = .returned (.string ⟨(escL s.data.toList).toArray⟩) ∧ Below w.heap.size w w' := by
 go_enter Tryz.func29, Tryz.ntmps29
 go_wp2_with (first | (go_at_call 42; have hb0 : (w.alloc (.cells (oldnew.map Value.string).toArray 9)).heap[w.heap.size]? = _ := blk_new w _; refine (new_ w.heap.size _ _ (row_on hb0)).mono ?_; rintro e w1 ⟨g, ga, c', rfl, hg1, hg2, hg3, hg4⟩; have G1 := Aside0.mk hg1; have G2 := Aside0.mk hg2; have G3 := Aside0.mk hg3; have G4 := Aside0.mk hg4; clear hg1 hg2 hg3 hg4 hb0) | (go_at_call 43; refine (repl43 g ga c' s _ hs G2.out (fun e9 => by (have a1 := at_on G3.out 0 (by omega); rw [e9] at a1; have a2 := (blk_cell G2.out 0).trans rfl; rw [a1] at a2; simp at a2)) (fun j hj => at_on G3.out j hj)).mono ?_; rintro e w2 ⟨rfl, hb2⟩; have G5 := Aside0.mk hb2; clear hb2))
 go_ret
 have h1 : Below w.heap.size w w1 := (below_alloc (Below.refl _ _) _).trans (G4.out.mono (by simp))
 exact ⟨rfl, h1.trans (G5.out.mono (Nat.le_trans (by simp) G1.out))⟩
def impl_escaped.f (a0 : ByteArray) : Option (ByteArray) := if a0.size ≤ 1048576 then some ⟨(escL a0.data.toList).toArray⟩ else none
theorem impl_escaped.calls (a0 : ByteArray) (r : ByteArray) (w : World) (h : impl_escaped.f a0 = some r) :
  Calls Tryz.prog 29 #[.string a0] w fun e w' => e = .returned (.string r) ∧ Below w.heap.size w w' := by
 unfold impl_escaped.f at h
 by_cases hs : a0.size ≤ 1048576
 ·rw [if_pos hs] at h
  injection h with h
  subst h
  exact escaped_ a0 w hs
 ·rw [if_neg hs] at h
  cases h

end Go.Proofs.YthfbpmjcjiihnaaGreatDoor.PFnExactMarksText
