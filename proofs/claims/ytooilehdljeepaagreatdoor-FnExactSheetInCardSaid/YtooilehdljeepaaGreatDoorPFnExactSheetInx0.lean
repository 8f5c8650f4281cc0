import Derived.Test.YtooilehdljeepaaGreatDoorProg
import Derived.Below
import Derived.Deep.Draws
import Derived.Deep.AppendLies
import Derived.Maps.AppendAt
import Derived.OwnWalk
import Derived.Laws.BytesArg
import Derived.Laws.MakeOwn
import Derived.Laws.OwnMore
import Derived.Deep.OwnRows
import Derived.Tactics
import Derived.Lib.ConvBytes
import Derived.Laws.Slices
import Derived.WalkKit
import Derived.KernelRfl
import Derived.RowKit3
import Derived.Deep.LoopGhost
import Derived.Deep.QuietTactic
import Derived.BigQuiet
import Derived.WideLaws
import Derived.Deep.DeepCutAuto
import Derived.Deep.CutBlock
import Derived.Deep.RegionHeld3
import Derived.Laws.Rows
import Derived.Lib.AppendStr
import Derived.ArgAppend
import Derived.Laws.IdiomCopy
import Derived.OrdersHeld
import Derived.Laws.BitsLemmas
import Derived.RowKit
import Derived.Shelf.Unicode.DecodeAny
import Derived.Shelf.Strings.Cut
import Derived.Shelf.Strings.Split
import Derived.Shelf.Lays
import Derived.Shelf.Strings.FieldsFuncAny
import Derived.Lib.FieldsP
import Derived.Shelf.Strings.SlTrimAsciiWalks
import Derived.Shelf.Strings.AsciiSet
import Derived.Shelf.Strings.IndexAnyAll
import Derived.Test.YtooilehdljeepaaGreatDoorVWords
import Derived.Test.YtooilehdljeepaaGreatDoorVLast
import Derived.Test.YtooilehdljeepaaGreatDoorVTab
import Derived.Test.YtooilehdljeepaaGreatDoorVApart
import Derived.Test.YtooilehdljeepaaGreatDoorVArr
import Derived.Test.YtooilehdljeepaaGreatDoorVZeros
import Derived.Test.YtooilehdljeepaaGreatDoorVFoot
import Derived.Test.YtooilehdljeepaaGreatDoorVKept
import Derived.Test.YtooilehdljeepaaGreatDoorVShare
import Derived.Test.YtooilehdljeepaaGreatDoorVN
import Derived.Test.YtooilehdljeepaaGreatDoorVAt
import Derived.Laws.StructEq
import Derived.Test.YtooilehdljeepaaGreatDoorVRepsOne
import Derived.Test.YtooilehdljeepaaGreatDoorVInv
import Derived.Test.YtooilehdljeepaaGreatDoorVGuard
import Derived.Test.YtooilehdljeepaaGreatDoorVNEv
import Derived.Test.YtooilehdljeepaaGreatDoorVMore
namespace Go.Proofs.YtooilehdljeepaaGreatDoor.PFnExactSheetIn
open Go.RowKit Go.Proofs.YtooilehdljeepaaGreatDoorW.PrintWords Go.Proofs.YtooilehdljeepaaGreatDoorW.PrintLast Go.Proofs.YtooilehdljeepaaGreatDoorW.PrintMore
attribute [local go_sem] max2_int min2_int max_two min_two max_three min_three max_four min_four   -- for this text's walks alone
set_option linter.unusedVariables false
set_option linter.unusedSimpArgs false
set_option maxHeartbeats 8000000
set_option maxRecDepth 100000
def errW : Option Int → Value
 | none => .nilIface
 | some c => .iface 0 (.int .i64 c)
theorem errW_none : errW none = .nilIface := rfl
theorem errW_some (c : Int) : errW (some c) = .iface 0 (.int .i64 c) := rfl

/-- a row of bytes of one's own whose block bears a mark behind its end ([]byte(s)). -/
def LowRow (g e : Nat) (w : World) (xs : List Int) : Prop := ∃ cur : Array Value, w.heap[g]? = some (.cells cur e (cur.size, cur.size + 1)) ∧ xs.length ≤ cur.size ∧ ∀ j, j < xs.length → cur[j]? = some (.int .u8 (xs.getD j 0))
theorem low_cell {g e : Nat} {w : World} {xs : List Int} (h : LowRow g e w xs) (i : Int) (h0 : 0 ≤ i) (h1 : i < xs.length) : w.cell? ⟨g, i.toNat, none⟩ = some (.int .u8 (rd xs i)) ∧ w.frozen? ⟨g, i.toNat, none⟩ = false := by
 obtain ⟨cur, hc, hl, hx⟩ := h; have hi : i.toNat < xs.length := by omega
 constructor
 ·unfold World.cell?
  simp only [hc]
  simpa [rd] using hx i.toNat hi
 ·unfold World.frozen?
  simp only [hc]
  have : ¬ cur.size ≤ i.toNat := by omega
  simp [this]
theorem low_set {g e : Nat} {w : World} {xs : List Int} (h : LowRow g e w xs) (i : Int) (h0 : 0 ≤ i) (h1 : i < xs.length) (x : Int) : LowRow g e (w.setCell ⟨g, i.toNat, none⟩ (.int .u8 x)) (xs.set i.toNat x) := by
 obtain ⟨cur, hc, hl, hx⟩ := h; refine ⟨cur.setIfInBounds i.toNat (.int .u8 x), ?_, by simpa using hl, fun j hj => ?_⟩
 ·have e1 : (w.setCell ⟨g, i.toNat, none⟩ (.int .u8 x)).heap[g]? = some (.cells (cur.setIfInBounds i.toNat (.int .u8 x)) e (cur.size, cur.size + 1)) := by
   unfold World.setCell
   simp [Array.getElem?_modify, hc]
  rw [e1]; simp
 ·rw [List.length_set] at hj; by_cases hij : j = i.toNat
  ·subst hij; rw [Array.getElem?_setIfInBounds_self_of_lt (by omega), List.getD_eq_getElem?_getD, List.getElem?_set_self (by omega)]; rfl
  ·rw [Array.getElem?_setIfInBounds_ne (by omega), List.getD_eq_getElem?_getD, List.getElem?_set_ne (by omega), ← List.getD_eq_getElem?_getD]
   exact hx j hj
theorem low_of_conv (W : World) (e : Nat) (s : ByteArray) : LowRow W.heap.size e (Lib.bytesWorld W e s) (bytesOf s) := by
 have hn := Lib.bytesWorld_at_new W e s; have key : ∀ j, j < s.size → (Lib.bytesCells W e s)[j]? = some (.int .u8 (s.data.toList.getD j 0).toNat) := by
  intro j hj; have hc := Lib.bytesWorld_cell W e s j hj; unfold World.cell? at hc
  simp only [hn] at hc
  simpa using hc
 have hl : (bytesOf s).length = s.size := bytesOf_length s
 refine ⟨Lib.bytesCells W e s, hn, ?_, fun j hj => ?_⟩
 ·rw [hl]
  by_cases h0 : s.size = 0
  ·omega
  ·have h1 := key (s.size - 1) (by omega); have h2 := (Array.getElem?_eq_some_iff.1 h1).1; omega
 ·rw [hl] at hj; rw [key j hj]
  have hj2 : j < s.data.toList.length := by rw [Lib.size_eq s] at hj; exact hj
  unfold bytesOf
  rw [List.getD_eq_getElem?_getD, List.getD_eq_getElem?_getD, List.getElem?_map, List.getElem?_eq_getElem hj2]
  rfl
theorem low_reads {g e : Nat} {w : World} {xs : List Int} {n : Nat} (h : LowRow g e w xs) (hn : xs.length = n) (hm : n ≤ 9223372036854775807) : ReadsInt w .u8 (some ⟨g, 0, none⟩) n xs := by
 refine ⟨hn, hm, fun _ => ⟨_, rfl, fun j hj => ?_⟩⟩
 rw [add_plain]
 have := (low_cell h (j : Int) (by omega) (by omega)).1
 rw [rd, Int.toNat_natCast] at this; exact this
theorem low_conv_ {P : Program} {ops : Array Oper} {o : Oper} {rest : List Oper} {a : Act} {Q : Exit → Act → World → Prop} {W : World} (e : Nat) (hgd : o.guard = none) {N : Tmp} (_hd : o.dst = some N) (src dst : TypeId) (x : Operand) (ho : o.op = .convert src dst x)
  (s : ByteArray) (hx : a.eval x = .string s) {u : TypeDesc} (hs : P.underlying src = some u) (hds : P.underlying dst = some (.slice e)) (he : P.underlying e = some (.int .u8))
  (h : ∀ g w1 c, W.heap.size ≤ g → LowRow g e w1 (bytesOf s) → Below W.heap.size W w1 → wpList P ops Q rest (a.put o.dst (.slice (some ⟨g, 0, none⟩) s.size c)) w1) : wpList P ops Q (o :: rest) a W := by
 have hr := print_bytes (P := P) src dst e hs hds he s W; refine Kd.event_run hgd ?_ (h W.heap.size _ (grownCap W s.size 0 e) (Nat.le_refl _) (low_of_conv W e s) (bytes_below (Below.refl _ _) (Nat.le_refl _) e s))
 simp [execOp, ho, hx, hr]
def lowC (x : Int) : Int := if 65 ≤ x ∧ x ≤ 90 then (x + 32) % 256 else x
def lowMix (xs : List Int) (i : Nat) : List Int := (xs.take i).map lowC ++ xs.drop i
theorem lowMix_len (xs : List Int) (i : Nat) (h : i ≤ xs.length) : (lowMix xs i).length = xs.length := by simp [lowMix]; omega
theorem lowMix_at (xs : List Int) (i : Nat) (h : i < xs.length) : rd (lowMix xs i) (i : Int) = xs.getD i 0 := by
 unfold rd lowMix
 rw [Int.toNat_natCast, List.getD_eq_getElem?_getD, List.getElem?_append_right (by simp; omega), List.getD_eq_getElem?_getD]
 simp [Nat.min_eq_left (Nat.le_of_lt h)]
theorem lowMix_step (xs : List Int) (i : Nat) (h : i < xs.length) : lowMix xs (i + 1) = (lowMix xs i).set i (lowC (xs.getD i 0)) := by
 unfold lowMix
 rw [List.set_append_right _ _ (by simp; omega)]
 have h1 : ((xs.take i).map lowC).length = i := by simp; omega
 rw [h1, Nat.sub_self, List.drop_eq_getElem_cons h, List.set_cons_zero, List.take_add_one, List.getElem?_eq_getElem h, List.map_append, List.getD_eq_getElem?_getD, List.getElem?_eq_getElem h]
 simp
theorem lowMix_same (xs : List Int) (i : Nat) (h : i < xs.length) (hc : lowC (xs.getD i 0) = xs.getD i 0) : lowMix xs (i + 1) = lowMix xs i := by
 rw [lowMix_step xs i h, hc]
 have h2 := lowMix_at xs i h; have hl := lowMix_len xs i (Nat.le_of_lt h); unfold rd at h2
 rw [Int.toNat_natCast] at h2; rw [← h2, List.getD_eq_getElem?_getD, List.getElem?_eq_getElem (by omega)]
 simp
theorem lowMix_all (xs : List Int) : lowMix xs xs.length = xs.map lowC := by simp [lowMix]
theorem low_wrap (i n : Nat) (h : i < n) (hn : n ≤ 9223372036854775807) : wrap64 ((i : Int) + 1) = ((i + 1 : Nat) : Int) := by unfold wrap64; omega
def lowB (s : ByteArray) : ByteArray := strOfNums ((bytesOf s).map lowC)

theorem emp1_ {l : List UInt8} (h : l = []) : (l == ([] : List UInt8)) = true ∧ l.isEmpty = true ∧ ¬ (l.isEmpty = false) ∧ (l != ([] : List UInt8)) = false := by subst h; exact ⟨rfl, rfl, by decide, rfl⟩
theorem emp0_ {l : List UInt8} (h : ¬ l = []) : (l == ([] : List UInt8)) = false ∧ l.isEmpty = false ∧ ¬ (l.isEmpty = true) ∧ (l != ([] : List UInt8)) = true := by cases l with
 | nil => exact absurd rfl h
 | cons a t => exact ⟨rfl, rfl, Bool.false_ne_true, rfl⟩
theorem itn_ {p : Prop} [Decidable p] {α : Type} {A : Option α} {r : α} (h : (if p then A else none) = some r) : p ∧ A = some r := by
 by_cases c : p
 · rw [if_pos c] at h; exact ⟨c, h⟩
 · rw [if_neg c] at h; cases h
theorem ite_ {p : Prop} [Decidable p] {α : Type} {A B r : α} (h : (if p then A else B) = r) : (p ∧ A = r) ∨ (¬ p ∧ B = r) := by
 by_cases c : p
 · rw [if_pos c] at h; exact .inl ⟨c, h⟩
 · rw [if_neg c] at h; exact .inr ⟨c, h⟩
theorem itb_ {b : Bool} {α : Type} {A B r : α} (h : (if b = true then A else B) = r) : (b = true ∧ A = r) ∨ (b = false ∧ B = r) := (ite_ h).imp id (fun h => ⟨Bool.eq_false_iff.mpr h.1, h.2⟩)
theorem bnd_ {α β : Type} {o : Option α} {f : α → Option β} {r : β} (h : o.bind f = some r) : ∃ a, Aside0 (o = some a) ∧ f a = some r := by
 obtain ⟨a, h1, h2⟩ := Option.bind_eq_some_iff.mp h
 exact ⟨a, ⟨h1⟩, h2⟩
theorem nams_ {α β : Type} {e : α} {f : α → Option β} {r : β} (h : (some e).bind f = some r) : ∃ y, Aside0 (y = e) ∧ f y = some r := ⟨e, ⟨rfl⟩, h⟩
theorem dn_ {p : Prop} (h : p := by exact ⟨by first | rfl | (simp; done) | (simp [*]; done), by repeat (first | exact Drawn0.refl _ | apply Drawn0.step)⟩) : p := h
theorem bcz2 {w : World} {g : Nat} {t : TypeId} {c0 c1 : Value} (h : w.heap[g]? = some (.cells #[c0, c1] t (0, 0))) : w.cell? ⟨g, 0, none⟩ = some c0 ∧ w.cell? ⟨g, 1, none⟩ = some c1 ∧ w.frozen? ⟨g, 0, none⟩ = false ∧ w.frozen? ⟨g, 1, none⟩ = false := ⟨(blk_cell h 0).trans rfl, (blk_cell h 1).trans rfl, blk_frozen h 0, blk_frozen h 1⟩
theorem bcz3 {w : World} {g : Nat} {t : TypeId} {c0 c1 c2 : Value} (h : w.heap[g]? = some (.cells #[c0, c1, c2] t (0, 0))) : w.cell? ⟨g, 0, none⟩ = some c0 ∧ w.cell? ⟨g, 1, none⟩ = some c1 ∧ w.cell? ⟨g, 2, none⟩ = some c2 ∧ w.frozen? ⟨g, 0, none⟩ = false ∧ w.frozen? ⟨g, 1, none⟩ = false ∧ w.frozen? ⟨g, 2, none⟩ = false := ⟨(blk_cell h 0).trans rfl, (blk_cell h 1).trans rfl, (blk_cell h 2).trans rfl, blk_frozen h 0, blk_frozen h 1, blk_frozen h 2⟩
theorem bcz4 {w : World} {g : Nat} {t : TypeId} {c0 c1 c2 c3 : Value} (h : w.heap[g]? = some (.cells #[c0, c1, c2, c3] t (0, 0))) : w.cell? ⟨g, 0, none⟩ = some c0 ∧ w.cell? ⟨g, 1, none⟩ = some c1 ∧ w.cell? ⟨g, 2, none⟩ = some c2 ∧ w.cell? ⟨g, 3, none⟩ = some c3 ∧ w.frozen? ⟨g, 0, none⟩ = false ∧ w.frozen? ⟨g, 1, none⟩ = false ∧ w.frozen? ⟨g, 2, none⟩ = false ∧ w.frozen? ⟨g, 3, none⟩ = false := ⟨(blk_cell h 0).trans rfl, (blk_cell h 1).trans rfl, (blk_cell h 2).trans rfl, (blk_cell h 3).trans rfl, blk_frozen h 0, blk_frozen h 1, blk_frozen h 2, blk_frozen h 3⟩
section
variable {P : Program} {md : Region.Mode} {ops : Array Oper} {Q : Exit → Act → World → Prop} {S : World → Prop} {ds : List Nat}
theorem tkp_ (i : Nat) (N : Option Tmp) {oi : Oper} {v : Value} {fuel : Nat} {l : Array Bool} {a : Act} {w : World} (l' : Array Bool) (hc : anyB md ops l l' i = true) {a' : Act} (h : wpAnyLast P md ops Q S ds fuel l' a' w)
 (hi : ops[i]? = some oi := by rfl) (hN : oi.dst = N := by rfl) (hQ : ∀ c a w, Q (.panic c) (a.put oi.dst v) w → Q (.panic c) a w := by exact fun _ _ _ h => h)
 (hy : Yields P ops oi v a := by (refine Or.inl ⟨by rfl, ?_⟩; intro w'; go_simp; with_reducible rfl)) (ha : a.put N v = a' := by (simp only [Act.put, List.setIfInBounds_toArray, List.set_cons_zero, List.set_cons_succ, i64_w, i32_w]; rfl)) : wpAnyLast P md ops Q S ds (fuel + 1) l a w := pure_ l' hi hN hc hQ hy ha h
theorem tkt_ (i : Nat) (N : Option Tmp) {oi : Oper} {v : Value} {fuel : Nat} {l : Array Bool} {a : Act} {w : World} (l' : Array Bool) (hc : takeB md ops ds l l' i = true) (hS : S w) {a' : Act} (h : wpAnyLast P md ops Q S ds fuel l' a' w)
 (hi : ops[i]? = some oi := by rfl) (hN : oi.dst = N := by rfl) (hQ : ∀ c a w, Q (.panic c) (a.put oi.dst v) w → Q (.panic c) a w := by exact fun _ _ _ h => h)
 (hy : YieldsIf P ops S oi v a := by (refine Or.inl ⟨by rfl, ?_⟩; (first | rintro w' ⟨s0, s1, s2, s3, s4, s5, s6, s7⟩ | rintro w' ⟨s0, s1, s2, s3, s4, s5⟩ | rintro w' ⟨s0, s1, s2, s3⟩ | rintro w' ⟨s0, s1, s2⟩ | rintro w' ⟨s0, s1⟩); go_simp; with_reducible rfl)) (ha : a.put N v = a' := by (simp only [Act.put, List.setIfInBounds_toArray, List.set_cons_zero, List.set_cons_succ, i64_w, i32_w]; rfl)) : wpAnyLast P md ops Q S ds (fuel + 1) l a w := take_ l' hi hN hc hQ hy hS ha h
end
theorem bp_ {p q : Prop} (h : q) (k : q → p := by intro h9_; with_reducible repeat (first | exact h9_ | apply blk_drewN | apply blk_drew | apply blk_alloc | apply blk_put | apply blk_far | exact Aside0.out (by assumption) | with_unfolding_all rfl)) : p := k h
theorem gsl_ {W w0 w1 : World} {k : Nat} (hg : k = W.heap.size) (h1 : Below w0.heap.size w0 w1) (h2 : Below w0.heap.size w0 W := by repeat (first | (with_reducible first | exact HB.out | apply below_alloc | apply pw_below_drewN | apply below_drew1 | refine below_set ?_ (Aside0.out (by assumption))) | exact HB.out)) : w0.heap.size ≤ k := by rw [hg]; exact below_size h2
theorem oda_ {p : Prop} [Decidable p] (h : decide p = true := by first | (with_reducible assumption) | assumption) : p := of_decide_eq_true h
theorem pb_ {w w1 : World} {p : Addr} {v : Value} (hb : Aside0 (Below w.heap.size w w1)) (hc : w.cell? p = some v) : w1.cell? p = some v := pw_cell_below hb.out hc
theorem ak_ {p : Prop} (h : p) : Aside0 p := ⟨h⟩
theorem odt_ {p : Prop} [Decidable p] (h : decide p = true := by first | (with_reducible assumption) | assumption) : p = True := eq_true (of_decide_eq_true h)
theorem itd_ {p : Prop} [Decidable p] {α : Type} {A : Option α} {r : α} (h : (if p then A else none) = some r) : decide p = true ∧ A = some r := (itn_ h).imp decide_eq_true id
theorem ied_ {p : Prop} [Decidable p] {α : Type} {A B r : α} (h : (if p then A else B) = r) : (decide p = true ∧ A = r) ∨ (decide p = false ∧ B = r) := (ite_ h).imp (And.imp decide_eq_true id) (And.imp decide_eq_false id)
section
variable {P : Program} {ops : Array Oper} {rest : List Oper} {o : Oper} {a : Act} {Q : Exit → Act → World → Prop}
theorem bx_ {W : World} {N : Tmp} {cs : Array Value} {t : TypeId} (h : ∀ g, g = W.heap.size → ∀ w1, w1.heap[g]? = some (.cells cs t (0, 0)) → Below W.heap.size W w1 → wpList P ops Q rest (a.put o.dst (.pointer (some ⟨g, 0, none⟩))) w1)
 (hd : o.dst = some N := by rfl) (hg : o.guard = none := by rfl) (hr : (execOp a.eval o).run P W = .ok (.value (.pointer (some ⟨W.heap.size, 0, none⟩))) (W.alloc (.cells cs t (0, 0))) := by first | (go_simp; done) | (go_simp; rfl)) : wpList P ops Q (o :: rest) a W := box_event hg hd hr h
theorem gl_ {w : World} (N : Option Tmp) {f : FuncId} {fn : Func} {zs : Array Operand} {ts : Array TypeId} (hf : P.funcs[f]? = some fn) (args : Array Value) (h : Calls P f args w fun e w' => ∃ v, e = .returned v ∧ wpList P ops Q rest (a.put N v) w')
 (hd : o.dst = N := by rfl) (hg : o.guard = none := by rfl) (hname : (fn.name == "runtime.NumGoroutine") = false := by kernel_rfl) (hb : fn.body.isSome = true := by rfl) (hop : o.op = .call { callee := .value (.func f), args := zs, argTypes := ts } := by rfl)
 (hargs : zs.map a.eval = args := by (try simp only [List.map_toArray, List.map_cons, List.map_nil]); first | done | rfl | (simp only [List.length_drop, List.length_take]; rfl)) : wpList P ops Q (o :: rest) a w := goesL_ N hd hg hf hname hb args hop hargs h
end
theorem an2_ {a b : Prop} (ha : a) (hb : b) : Aside0 a ∧ Aside0 b := ⟨⟨ha⟩, ⟨hb⟩⟩
theorem an3_ {a b c : Prop} (ha : a) (hb : b) (hc : c) : Aside0 a ∧ Aside0 b ∧ Aside0 c := ⟨⟨ha⟩, ⟨hb⟩, ⟨hc⟩⟩
theorem an4_ {a b c d : Prop} (ha : a) (hb : b) (hc : c) (hd : d) : Aside0 a ∧ Aside0 b ∧ Aside0 c ∧ Aside0 d := ⟨⟨ha⟩, ⟨hb⟩, ⟨hc⟩, ⟨hd⟩⟩
theorem an5_ {a b c d e : Prop} (ha : a) (hb : b) (hc : c) (hd : d) (he : e) : Aside0 a ∧ Aside0 b ∧ Aside0 c ∧ Aside0 d ∧ Aside0 e := ⟨⟨ha⟩, ⟨hb⟩, ⟨hc⟩, ⟨hd⟩, ⟨he⟩⟩
theorem an6_ {a b c d e f : Prop} (ha : a) (hb : b) (hc : c) (hd : d) (he : e) (hf : f) : Aside0 a ∧ Aside0 b ∧ Aside0 c ∧ Aside0 d ∧ Aside0 e ∧ Aside0 f := ⟨⟨ha⟩, ⟨hb⟩, ⟨hc⟩, ⟨hd⟩, ⟨he⟩, ⟨hf⟩⟩
theorem an7_ {a b c d e f g : Prop} (ha : a) (hb : b) (hc : c) (hd : d) (he : e) (hf : f) (hg : g) : Aside0 a ∧ Aside0 b ∧ Aside0 c ∧ Aside0 d ∧ Aside0 e ∧ Aside0 f ∧ Aside0 g := ⟨⟨ha⟩, ⟨hb⟩, ⟨hc⟩, ⟨hd⟩, ⟨he⟩, ⟨hf⟩, ⟨hg⟩⟩
theorem an10_ {a b c d e f g h i j : Prop} (ha : a) (hb : b) (hc : c) (hd : d) (he : e) (hf : f) (hg : g) (hh : h) (hi : i) (hj : j) : Aside0 a ∧ Aside0 b ∧ Aside0 c ∧ Aside0 d ∧ Aside0 e ∧ Aside0 f ∧ Aside0 g ∧ Aside0 h ∧ Aside0 i ∧ Aside0 j := ⟨⟨ha⟩, ⟨hb⟩, ⟨hc⟩, ⟨hd⟩, ⟨he⟩, ⟨hf⟩, ⟨hg⟩, ⟨hh⟩, ⟨hi⟩, ⟨hj⟩⟩
theorem bel_ {p : Prop} (h : p := by repeat (first | (with_reducible first | exact HB.out | apply below_alloc | apply pw_below_drewN | apply below_drew1) | exact HB.out)) : p := h
theorem bes_ {p : Prop} (h : p := by repeat (first | (with_reducible first | exact HB.out | apply below_alloc | apply pw_below_drewN | apply below_drew1 | refine below_set ?_ (Aside0.out (by assumption))) | exact HB.out)) : p := h
theorem sv_ {p : Prop} (h : p := by first | rfl | (simp; done) | (simp [*]; done) | (simp [wrap64]; done)) : p := h
theorem au_ {p : Prop} (h : p := by (try simp only [List.map_toArray, List.map_cons, List.map_nil]); first | done | rfl | (simp only [List.length_drop, List.length_take]; rfl)) : p := h
theorem bk_ {p q : Prop} (h : q) (k : q → p := by intro h9_; (with_reducible repeat (first | refine blk_drewN ?_ _ | refine blk_drew ?_ | refine blk_alloc ?_ _)); exact h9_) : p := k h
theorem kdR_ {p q : Prop} (h : q) (k : q → p := by intro h9_; (with_reducible repeat (first | apply Kd.R_alloc | apply Kd.R_drewN | apply Kd.R_drew)); exact h9_) : p := k h
theorem kdS_ {p q : Prop} (h : q) (k : q → p := by intro h9_; (with_reducible repeat (first | apply Kd.S_alloc | apply Kd.S_drewN | apply Kd.S_drew)); exact h9_) : p := k h
theorem er_ {p : Prop} (h : p := by first | rfl | (simp [errW_none, errW_some] <;> rfl) | (simp [*, errW_none, errW_some] <;> rfl)) : p := h
theorem dd_ {p : Prop} (h : p := by first | exact ⟨rfl, _, World.drewN_drewN _ _ _⟩ | exact ⟨rfl, _, Eq.trans (World.drewN_drewN _ _ _) (congrArg (World.drewN _) (Nat.add_assoc _ _ _))⟩) : p := h
theorem cs_ {p q : Prop} (h : q) (k : q → p := by intro h9_; repeat (first | exact h9_ | (with_reducible refine Kd.C_alloc ?_ _) | (with_reducible refine Kd.C_drewN ?_ _) | (with_reducible refine Kd.C_drew ?_))) : p := k h
theorem info3 : (Tryz.prog.info? 3).map (fun i => (i.zero, i.size, i.bytes)) = some (some (.int .i64 0), 1, 8) := by kernel_rfl
theorem info9 : (Tryz.prog.info? 9).map (fun i => (i.zero, i.size, i.bytes)) = some (some (.string ⟨#[]⟩), 1, 16) := by kernel_rfl
theorem info40 : (Tryz.prog.info? 40).map (fun i => (i.zero, i.size, i.bytes)) = some (some (.agg #[(.string ⟨#[]⟩), (.int .i64 0), (.slice none 0 0), (.string ⟨#[]⟩)]), 4, 64) := by kernel_rfl
theorem info50 : (Tryz.prog.info? 50).map (fun i => (i.zero, i.size, i.bytes)) = some (some (.agg #[(.slice none 0 0), (.slice none 0 0)]), 2, 48) := by kernel_rfl
theorem info76 : (Tryz.prog.info? 76).map (fun i => (i.zero, i.size, i.bytes)) = some (some (.agg #[(.string ⟨#[]⟩), (.string ⟨#[]⟩)]), 2, 32) := by kernel_rfl
theorem info78 : (Tryz.prog.info? 78).map (fun i => (i.zero, i.size, i.bytes)) = some (some (.slice none 0 0), 1, 24) := by kernel_rfl
theorem info80 : (Tryz.prog.info? 80).map (fun i => (i.zero, i.size, i.bytes)) = some (some (.agg #[(.string ⟨#[]⟩), (.string ⟨#[]⟩), (.bool false)]), 3, 40) := by kernel_rfl
theorem info102 : (Tryz.prog.info? 102).map (fun i => (i.zero, i.size, i.bytes)) = some (some (.agg #[(.string ⟨#[]⟩), (.string ⟨#[]⟩), (.slice none 0 0)]), 3, 56) := by kernel_rfl
/-! #### struct type 82 -/
structure S82 where
 f0 : ByteArray
 f1 : ByteArray
def z82 : S82 := ⟨(⟨#[]⟩ : ByteArray), (⟨#[]⟩ : ByteArray)⟩
def k82 : Kd S82 := Kd.iso (Kd.pair Kd.string Kd.string) (fun x : S82 => (x.f0, x.f1))
theorem k82_open {w : World} {x : S82} {cs : List Value} (h : k82.K w x cs) : cs = [.string x.f0, .string x.f1] := by
 obtain ⟨_, _, rfl, rfl, rfl⟩ := h; exact rfl
def rd_T82 (xs : List S82) (i : Int) : S82 := xs.getD i.toNat z82
theorem at_T82 {w : World} {A : Option Addr} {n : Nat} {xs : List S82} (h : Kd.C k82 w A n xs) (i : Int) (h0 : 0 ≤ i) (h1 : i < n) : ∃ ad , A = some ad ∧ w.cell? (ad.add (i.toNat * 2)) = some (.string (rd_T82 xs i).f0) ∧ w.cell? ⟨(ad.add (i.toNat * 2)).block, (ad.add (i.toNat * 2)).off + 1, none⟩ = some (.string (rd_T82 xs i).f1) := by
 obtain ⟨ad, c, e, _, hK, hc0⟩ := Kd.C_get h z82 i h0 h1; have hc : ∀ j u, c[j]? = some u → w.cell? (ad.add (i.toNat * 2 + j)) = some u := hc0
 obtain rfl := k82_open hK
 exact ⟨ad, e, hc 0 _ rfl, by rw [← add_field _ _ 1 (by omega)]; exact hc 1 _ rfl⟩

def rd_L3 (xs : List (List S82)) (i : Int) : (List S82) := xs.getD i.toNat ([] : List S82)
/-! #### struct type 36 -/
structure S36 where
 f0 : ByteArray
 f1 : Int
 f2 : (List S82)
 f3 : ByteArray
def z36 : S36 := ⟨(⟨#[]⟩ : ByteArray), (0 : Int), ([] : List S82), (⟨#[]⟩ : ByteArray)⟩
def k36 : Kd S36 := Kd.iso (Kd.pair Kd.string (Kd.pair (Kd.int .i64) (Kd.pair (Kd.slice 82 k82) Kd.string))) (fun x : S36 => (x.f0, x.f1, x.f2, x.f3))
theorem k36_open {w : World} {x : S36} {cs : List Value} (h : k36.K w x cs) : ∃ A2 c2, cs = [.string x.f0, .int .i64 x.f1, .slice A2 x.f2.length c2, .string x.f3] ∧ x.f2.length ≤ c2 ∧ k82.C w A2 x.f2.length x.f2 := by
 obtain ⟨_, _, rfl, rfl, ⟨_, _, rfl, rfl, ⟨_, _, rfl, ⟨A2, c2, rfl, l2, g2⟩, rfl⟩⟩⟩ := h; exact ⟨A2, c2, rfl, l2, g2⟩
def rd_T36 (xs : List S36) (i : Int) : S36 := xs.getD i.toNat z36
theorem at_T36 {w : World} {A : Option Addr} {n : Nat} {xs : List S36} (h : Kd.C k36 w A n xs) (i : Int) (h0 : 0 ≤ i) (h1 : i < n) : ∃ ad A2 c2, A = some ad ∧ w.cell? (ad.add (i.toNat * 4)) = some (.string (rd_T36 xs i).f0) ∧ w.cell? ⟨(ad.add (i.toNat * 4)).block, (ad.add (i.toNat * 4)).off + 1, none⟩ = some (.int .i64 (rd_T36 xs i).f1) ∧ w.cell? ⟨(ad.add (i.toNat * 4)).block, (ad.add (i.toNat * 4)).off + 2, none⟩ = some (.slice A2 (rd_T36 xs i).f2.length c2) ∧ w.cell? ⟨(ad.add (i.toNat * 4)).block, (ad.add (i.toNat * 4)).off + 3, none⟩ = some (.string (rd_T36 xs i).f3) ∧ (rd_T36 xs i).f2.length ≤ c2 ∧ k82.C w A2 (rd_T36 xs i).f2.length (rd_T36 xs i).f2 := by
 obtain ⟨ad, c, e, _, hK, hc0⟩ := Kd.C_get h z36 i h0 h1; have hc : ∀ j u, c[j]? = some u → w.cell? (ad.add (i.toNat * 4 + j)) = some u := hc0
 obtain ⟨A2, c2, rfl, l2, g2⟩ := k36_open hK; exact ⟨ad, A2, c2, e, hc 0 _ rfl, by rw [← add_field _ _ 1 (by omega)]; exact hc 1 _ rfl, by rw [← add_field _ _ 2 (by omega)]; exact hc 2 _ rfl, by rw [← add_field _ _ 3 (by omega)]; exact hc 3 _ rfl, l2, g2⟩

/-! #### struct type 76 -/
structure S76 where
 f0 : ByteArray
 f1 : ByteArray
def z76 : S76 := ⟨(⟨#[]⟩ : ByteArray), (⟨#[]⟩ : ByteArray)⟩
def k76 : Kd S76 := Kd.iso (Kd.pair Kd.string Kd.string) (fun x : S76 => (x.f0, x.f1))
theorem k76_open {w : World} {x : S76} {cs : List Value} (h : k76.K w x cs) : cs = [.string x.f0, .string x.f1] := by
 obtain ⟨_, _, rfl, rfl, rfl⟩ := h; exact rfl
theorem k76_openM {w : World} {base : Nat} {ok : Nat → Prop} {x : S76} {cs : List Value} (h : k76.M w base ok x cs) : cs = [.string x.f0, .string x.f1] := by
 obtain ⟨_, _, rfl, rfl, rfl⟩ := h; exact rfl
theorem k76_mkM (w : World) (base : Nat) (ok : Nat → Prop) (x : S76)  : k76.M w base ok x [.string x.f0, .string x.f1] := ⟨[.string x.f0], [.string x.f1], rfl, rfl, rfl⟩
def rd_T76 (xs : List S76) (i : Int) : S76 := xs.getD i.toNat z76
theorem at_T76 {w : World} {A : Option Addr} {n : Nat} {xs : List S76} (h : Kd.C k76 w A n xs) (i : Int) (h0 : 0 ≤ i) (h1 : i < n) : ∃ ad , A = some ad ∧ w.cell? (ad.add (i.toNat * 2)) = some (.string (rd_T76 xs i).f0) ∧ w.cell? ⟨(ad.add (i.toNat * 2)).block, (ad.add (i.toNat * 2)).off + 1, none⟩ = some (.string (rd_T76 xs i).f1) := by
 obtain ⟨ad, c, e, _, hK, hc0⟩ := Kd.C_get h z76 i h0 h1; have hc : ∀ j u, c[j]? = some u → w.cell? (ad.add (i.toNat * 2 + j)) = some u := hc0
 obtain rfl := k76_open hK
 exact ⟨ad, e, hc 0 _ rfl, by rw [← add_field _ _ 1 (by omega)]; exact hc 1 _ rfl⟩

def rd_L6 (xs : List (List S76)) (i : Int) : (List S76) := xs.getD i.toNat ([] : List S76)
/-! #### struct type 40 -/
structure S40 where
 f0 : ByteArray
 f1 : Int
 f2 : (List S76)
 f3 : ByteArray
def z40 : S40 := ⟨(⟨#[]⟩ : ByteArray), (0 : Int), ([] : List S76), (⟨#[]⟩ : ByteArray)⟩
def k40 : Kd S40 := Kd.iso (Kd.pair Kd.string (Kd.pair (Kd.int .i64) (Kd.pair (Kd.slice 76 k76) Kd.string))) (fun x : S40 => (x.f0, x.f1, x.f2, x.f3))
theorem k40_open {w : World} {x : S40} {cs : List Value} (h : k40.K w x cs) : ∃ A2 c2, cs = [.string x.f0, .int .i64 x.f1, .slice A2 x.f2.length c2, .string x.f3] ∧ x.f2.length ≤ c2 ∧ k76.C w A2 x.f2.length x.f2 := by
 obtain ⟨_, _, rfl, rfl, ⟨_, _, rfl, rfl, ⟨_, _, rfl, ⟨A2, c2, rfl, l2, g2⟩, rfl⟩⟩⟩ := h; exact ⟨A2, c2, rfl, l2, g2⟩
theorem k40_openM {w : World} {base : Nat} {ok : Nat → Prop} {x : S40} {cs : List Value} (h : k40.M w base ok x cs) : ∃ v2, cs = [.string x.f0, .int .i64 x.f1, v2, .string x.f3] ∧ k76.R 76 w base ok v2 x.f2 := by
 obtain ⟨_, _, rfl, rfl, ⟨_, _, rfl, rfl, ⟨_, _, rfl, ⟨v2, rfl, g2⟩, rfl⟩⟩⟩ := h; exact ⟨v2, rfl, g2⟩
theorem k40_mkM (w : World) (base : Nat) (ok : Nat → Prop) (x : S40) {v2 : Value} (g2 : k76.R 76 w base ok v2 x.f2) : k40.M w base ok x [.string x.f0, .int .i64 x.f1, v2, .string x.f3] := ⟨[.string x.f0], [.int .i64 x.f1, v2, .string x.f3], rfl, rfl, ⟨[.int .i64 x.f1], [v2, .string x.f3], rfl, rfl, ⟨[v2], [.string x.f3], rfl, ⟨v2, rfl, g2⟩, rfl⟩⟩⟩
def rd_T40 (xs : List S40) (i : Int) : S40 := xs.getD i.toNat z40
theorem at_T40 {w : World} {A : Option Addr} {n : Nat} {xs : List S40} (h : Kd.C k40 w A n xs) (i : Int) (h0 : 0 ≤ i) (h1 : i < n) : ∃ ad A2 c2, A = some ad ∧ w.cell? (ad.add (i.toNat * 4)) = some (.string (rd_T40 xs i).f0) ∧ w.cell? ⟨(ad.add (i.toNat * 4)).block, (ad.add (i.toNat * 4)).off + 1, none⟩ = some (.int .i64 (rd_T40 xs i).f1) ∧ w.cell? ⟨(ad.add (i.toNat * 4)).block, (ad.add (i.toNat * 4)).off + 2, none⟩ = some (.slice A2 (rd_T40 xs i).f2.length c2) ∧ w.cell? ⟨(ad.add (i.toNat * 4)).block, (ad.add (i.toNat * 4)).off + 3, none⟩ = some (.string (rd_T40 xs i).f3) ∧ (rd_T40 xs i).f2.length ≤ c2 ∧ k76.C w A2 (rd_T40 xs i).f2.length (rd_T40 xs i).f2 := by
 obtain ⟨ad, c, e, _, hK, hc0⟩ := Kd.C_get h z40 i h0 h1; have hc : ∀ j u, c[j]? = some u → w.cell? (ad.add (i.toNat * 4 + j)) = some u := hc0
 obtain ⟨A2, c2, rfl, l2, g2⟩ := k40_open hK; exact ⟨ad, A2, c2, e, hc 0 _ rfl, by rw [← add_field _ _ 1 (by omega)]; exact hc 1 _ rfl, by rw [← add_field _ _ 2 (by omega)]; exact hc 2 _ rfl, by rw [← add_field _ _ 3 (by omega)]; exact hc 3 _ rfl, l2, g2⟩

/-! #### struct type 80 -/
structure S80 where
 f0 : ByteArray
 f1 : ByteArray
 f2 : Bool
def z80 : S80 := ⟨(⟨#[]⟩ : ByteArray), (⟨#[]⟩ : ByteArray), false⟩
def k80 : Kd S80 := Kd.iso (Kd.pair Kd.string (Kd.pair Kd.string Kd.bool)) (fun x : S80 => (x.f0, x.f1, x.f2))
theorem k80_open {w : World} {x : S80} {cs : List Value} (h : k80.K w x cs) : cs = [.string x.f0, .string x.f1, .bool x.f2] := by
 obtain ⟨_, _, rfl, rfl, ⟨_, _, rfl, rfl, rfl⟩⟩ := h; exact rfl
theorem k80_openM {w : World} {base : Nat} {ok : Nat → Prop} {x : S80} {cs : List Value} (h : k80.M w base ok x cs) : cs = [.string x.f0, .string x.f1, .bool x.f2] := by
 obtain ⟨_, _, rfl, rfl, ⟨_, _, rfl, rfl, rfl⟩⟩ := h; exact rfl
theorem k80_mkM (w : World) (base : Nat) (ok : Nat → Prop) (x : S80)  : k80.M w base ok x [.string x.f0, .string x.f1, .bool x.f2] := ⟨[.string x.f0], [.string x.f1, .bool x.f2], rfl, rfl, ⟨[.string x.f1], [.bool x.f2], rfl, rfl, rfl⟩⟩
def rd_T80 (xs : List S80) (i : Int) : S80 := xs.getD i.toNat z80
theorem at_T80 {w : World} {A : Option Addr} {n : Nat} {xs : List S80} (h : Kd.C k80 w A n xs) (i : Int) (h0 : 0 ≤ i) (h1 : i < n) : ∃ ad , A = some ad ∧ w.cell? (ad.add (i.toNat * 3)) = some (.string (rd_T80 xs i).f0) ∧ w.cell? ⟨(ad.add (i.toNat * 3)).block, (ad.add (i.toNat * 3)).off + 1, none⟩ = some (.string (rd_T80 xs i).f1) ∧ w.cell? ⟨(ad.add (i.toNat * 3)).block, (ad.add (i.toNat * 3)).off + 2, none⟩ = some (.bool (rd_T80 xs i).f2) := by
 obtain ⟨ad, c, e, _, hK, hc0⟩ := Kd.C_get h z80 i h0 h1; have hc : ∀ j u, c[j]? = some u → w.cell? (ad.add (i.toNat * 3 + j)) = some u := hc0
 obtain rfl := k80_open hK
 exact ⟨ad, e, hc 0 _ rfl, by rw [← add_field _ _ 1 (by omega)]; exact hc 1 _ rfl, by rw [← add_field _ _ 2 (by omega)]; exact hc 2 _ rfl⟩

def rd_L10 (xs : List (List ByteArray)) (i : Int) : (List ByteArray) := xs.getD i.toNat ([] : List ByteArray)
/-! #### struct type 102 -/
structure S102 where
 f0 : ByteArray
 f1 : ByteArray
 f2 : (List ByteArray)
def z102 : S102 := ⟨(⟨#[]⟩ : ByteArray), (⟨#[]⟩ : ByteArray), ([] : List ByteArray)⟩
def k102 : Kd S102 := Kd.iso (Kd.pair Kd.string (Kd.pair Kd.string (Kd.slice 9 Kd.string))) (fun x : S102 => (x.f0, x.f1, x.f2))
theorem k102_open {w : World} {x : S102} {cs : List Value} (h : k102.K w x cs) : ∃ A2 c2, cs = [.string x.f0, .string x.f1, .slice A2 x.f2.length c2] ∧ x.f2.length ≤ c2 ∧ Kd.string.C w A2 x.f2.length x.f2 := by
 obtain ⟨_, _, rfl, rfl, ⟨_, _, rfl, rfl, ⟨A2, c2, rfl, l2, g2⟩⟩⟩ := h; exact ⟨A2, c2, rfl, l2, g2⟩
theorem k102_openM {w : World} {base : Nat} {ok : Nat → Prop} {x : S102} {cs : List Value} (h : k102.M w base ok x cs) : ∃ v2, cs = [.string x.f0, .string x.f1, v2] ∧ Kd.string.R 9 w base ok v2 x.f2 := by
 obtain ⟨_, _, rfl, rfl, ⟨_, _, rfl, rfl, ⟨v2, rfl, g2⟩⟩⟩ := h; exact ⟨v2, rfl, g2⟩
theorem k102_mkM (w : World) (base : Nat) (ok : Nat → Prop) (x : S102) {v2 : Value} (g2 : Kd.string.R 9 w base ok v2 x.f2) : k102.M w base ok x [.string x.f0, .string x.f1, v2] := ⟨[.string x.f0], [.string x.f1, v2], rfl, rfl, ⟨[.string x.f1], [v2], rfl, rfl, ⟨v2, rfl, g2⟩⟩⟩
def rd_T102 (xs : List S102) (i : Int) : S102 := xs.getD i.toNat z102
theorem at_T102 {w : World} {A : Option Addr} {n : Nat} {xs : List S102} (h : Kd.C k102 w A n xs) (i : Int) (h0 : 0 ≤ i) (h1 : i < n) : ∃ ad A2 c2, A = some ad ∧ w.cell? (ad.add (i.toNat * 3)) = some (.string (rd_T102 xs i).f0) ∧ w.cell? ⟨(ad.add (i.toNat * 3)).block, (ad.add (i.toNat * 3)).off + 1, none⟩ = some (.string (rd_T102 xs i).f1) ∧ w.cell? ⟨(ad.add (i.toNat * 3)).block, (ad.add (i.toNat * 3)).off + 2, none⟩ = some (.slice A2 (rd_T102 xs i).f2.length c2) ∧ (rd_T102 xs i).f2.length ≤ c2 ∧ Kd.string.C w A2 (rd_T102 xs i).f2.length (rd_T102 xs i).f2 := by
 obtain ⟨ad, c, e, _, hK, hc0⟩ := Kd.C_get h z102 i h0 h1; have hc : ∀ j u, c[j]? = some u → w.cell? (ad.add (i.toNat * 3 + j)) = some u := hc0
 obtain ⟨A2, c2, rfl, l2, g2⟩ := k102_open hK; exact ⟨ad, A2, c2, e, hc 0 _ rfl, by rw [← add_field _ _ 1 (by omega)]; exact hc 1 _ rfl, by rw [← add_field _ _ 2 (by omega)]; exact hc 2 _ rfl, l2, g2⟩

def rd_L12 (xs : List (List S102)) (i : Int) : (List S102) := xs.getD i.toNat ([] : List S102)
theorem at_L12 {w : World} {A : Option Addr} {n : Nat} {xs : List (List S102)} (h : Kd.C (Kd.slice 102 k102) w A n xs) (i : Int) (h0 : 0 ≤ i) (h1 : i < n) : ∃ ad A0 c0, A = some ad ∧ w.cell? (ad.add i.toNat) = some (.slice A0 (rd_L12 xs i).length c0) ∧ (rd_L12 xs i).length ≤ c0 ∧ k102.C w A0 (rd_L12 xs i).length (rd_L12 xs i) := by
 obtain ⟨ad, c, e, _, hK, hc0⟩ := Kd.C_get h ([] : List S102) i h0 h1; have hc : ∀ j u, c[j]? = some u → w.cell? (ad.add (i.toNat * 1 + j)) = some u := hc0
 obtain ⟨A0, c0, rfl, l0, g0⟩ := hK; exact ⟨ad, A0, c0, e, by have hq := hc 0 _ rfl; rwa [Nat.mul_one, Nat.add_zero] at hq, l0, g0⟩

def rd_L13 (xs : List (List (List S102))) (i : Int) : (List (List S102)) := xs.getD i.toNat ([] : List (List S102))
def rd_L14 (xs : List (List S80)) (i : Int) : (List S80) := xs.getD i.toNat ([] : List S80)
/-! #### struct type 50 -/
structure S50 where
 f0 : (List (List S102))
 f1 : (List S80)
def z50 : S50 := ⟨([] : List (List S102)), ([] : List S80)⟩
def k50 : Kd S50 := Kd.iso (Kd.pair (Kd.slice 78 (Kd.slice 102 k102)) (Kd.slice 80 k80)) (fun x : S50 => (x.f0, x.f1))
theorem k50_open {w : World} {x : S50} {cs : List Value} (h : k50.K w x cs) : ∃ A0 c0 A1 c1, cs = [.slice A0 x.f0.length c0, .slice A1 x.f1.length c1] ∧ x.f0.length ≤ c0 ∧ (Kd.slice 102 k102).C w A0 x.f0.length x.f0 ∧ x.f1.length ≤ c1 ∧ k80.C w A1 x.f1.length x.f1 := by
 obtain ⟨_, _, rfl, ⟨A0, c0, rfl, l0, g0⟩, ⟨A1, c1, rfl, l1, g1⟩⟩ := h; exact ⟨A0, c0, A1, c1, rfl, l0, g0, l1, g1⟩
theorem k50_mk (w : World) (x : S50) {A0 : Option Addr} {c0 : Nat} (l0 : x.f0.length ≤ c0) (g0 : (Kd.slice 102 k102).C w A0 x.f0.length x.f0) {A1 : Option Addr} {c1 : Nat} (l1 : x.f1.length ≤ c1) (g1 : k80.C w A1 x.f1.length x.f1) : k50.K w x [.slice A0 x.f0.length c0, .slice A1 x.f1.length c1] := ⟨[.slice A0 x.f0.length c0], [.slice A1 x.f1.length c1], rfl, ⟨A0, c0, rfl, l0, g0⟩, ⟨A1, c1, rfl, l1, g1⟩⟩
theorem k50_mkM (w : World) (base : Nat) (ok : Nat → Prop) (x : S50) {v0 : Value} (g0 : (Kd.slice 102 k102).R 78 w base ok v0 x.f0) {v1 : Value} (g1 : k80.R 80 w base ok v1 x.f1) : k50.M w base ok x [v0, v1] := ⟨[v0], [v1], rfl, ⟨v0, rfl, g0⟩, ⟨v1, rfl, g1⟩⟩
theorem k50_openF {W : World} {ok : Nat → Prop} {x : S50} {cs : List Value} (h : Kd.FK k50 W ok x cs) : ∃ A0 c0 A1 c1, cs = [.slice A0 x.f0.length c0, .slice A1 x.f1.length c1] ∧ x.f0.length ≤ c0 ∧ Kd.F (Kd.slice 102 k102) W ok A0 x.f0.length x.f0 ∧ x.f1.length ≤ c1 ∧ Kd.F k80 W ok A1 x.f1.length x.f1 := by
 obtain ⟨A0, c0, A1, c1, rfl, l0, _, l1, _⟩ := k50_open (Kd.FK_now h); exact ⟨A0, c0, A1, c1, rfl, l0, (fun W' hW => by obtain ⟨A0_, c0_, A1_, c1_, he, l0_, g0_, l1_, g1_⟩ := k50_open (h W' hW); injection (Option.some.inj (show some (Value.slice A0 x.f0.length c0) = some (Value.slice A0_ x.f0.length c0_) from congrArg (fun l => l[0]?) he)) with ha_ _ _; rw [ha_]; exact g0_), l1, (fun W' hW => by obtain ⟨A0_, c0_, A1_, c1_, he, l0_, g0_, l1_, g1_⟩ := k50_open (h W' hW); injection (Option.some.inj (show some (Value.slice A1 x.f1.length c1) = some (Value.slice A1_ x.f1.length c1_) from congrArg (fun l => l[1]?) he)) with ha_ _ _; rw [ha_]; exact g1_)⟩
theorem k50_mkF (W : World) (ok : Nat → Prop) (x : S50) {A0 : Option Addr} {c0 : Nat} (l0 : x.f0.length ≤ c0) (g0 : Kd.F (Kd.slice 102 k102) W ok A0 x.f0.length x.f0) {A1 : Option Addr} {c1 : Nat} (l1 : x.f1.length ≤ c1) (g1 : Kd.F k80 W ok A1 x.f1.length x.f1) : Kd.FK k50 W ok x [.slice A0 x.f0.length c0, .slice A1 x.f1.length c1] := fun W2 hW => k50_mk W2 x l0 (g0 W2 hW) l1 (g1 W2 hW)
def rd_T50 (xs : List S50) (i : Int) : S50 := xs.getD i.toNat z50
theorem at_T50 {w : World} {A : Option Addr} {n : Nat} {xs : List S50} (h : Kd.C k50 w A n xs) (i : Int) (h0 : 0 ≤ i) (h1 : i < n) : ∃ ad A0 c0 A1 c1, A = some ad ∧ w.cell? (ad.add (i.toNat * 2)) = some (.slice A0 (rd_T50 xs i).f0.length c0) ∧ w.cell? ⟨(ad.add (i.toNat * 2)).block, (ad.add (i.toNat * 2)).off + 1, none⟩ = some (.slice A1 (rd_T50 xs i).f1.length c1) ∧ (rd_T50 xs i).f0.length ≤ c0 ∧ (Kd.slice 102 k102).C w A0 (rd_T50 xs i).f0.length (rd_T50 xs i).f0 ∧ (rd_T50 xs i).f1.length ≤ c1 ∧ k80.C w A1 (rd_T50 xs i).f1.length (rd_T50 xs i).f1 := by
 obtain ⟨ad, c, e, _, hK, hc0⟩ := Kd.C_get h z50 i h0 h1; have hc : ∀ j u, c[j]? = some u → w.cell? (ad.add (i.toNat * 2 + j)) = some u := hc0
 obtain ⟨A0, c0, A1, c1, rfl, l0, g0, l1, g1⟩ := k50_open hK; exact ⟨ad, A0, c0, A1, c1, e, hc 0 _ rfl, by rw [← add_field _ _ 1 (by omega)]; exact hc 1 _ rfl, l0, g0, l1, g1⟩

/-! ### laws_szAttr: function 51 -/
def laws_szAttr.f (a0_0 : ByteArray) (a0_1 : ByteArray) (a1 : Int) : Option (Int) := if (wrap64 (a1 - (a0_0.size : Int))) < 0 then (some (-1)) else (if (wrap64 ((wrap64 (a1 - (a0_0.size : Int))) - (a0_1.size : Int))) < 0 then (some (-1)) else (some (wrap64 ((wrap64 (a1 - (a0_0.size : Int))) - (a0_1.size : Int)))))
theorem laws_szAttr.calls (a0_0 : ByteArray) (a0_1 : ByteArray) (a1 : Int) (r : Int) (w : World) (h : laws_szAttr.f a0_0 a0_1 a1 = some r) :
  Calls Tryz.prog 51 #[.agg #[.string a0_0, .string a0_1], .int .i64 a1] w fun e w' => e = .returned (.int .i64 r) ∧ Below w.heap.size w w' := by
 have hu82 := Tryz.underlying82; have HB := ak_ (Below.refl w.heap.size w); have H := h; unfold laws_szAttr.f at H
 clear h; replace H := ied_ H; rcases H with ⟨c3b0, H⟩ | ⟨c3b0, H⟩
 ·obtain rfl := Option.some.inj H
  go_enter Tryz.func51, Tryz.ntmps51
  go_wp2_with (first | ((with_reducible refine gate_dst (N := 2) rfl ?_); refine bx_ (N := 2) (cs := #[.string a0_0, .string a0_1]) (t := 82) ?_; intro gb101 hg w4 hbox hb; have n_ := an4_ (below_step bel_ hb) (hbox) (gsl_ hg HB.out) (gsl_ hg HB.out); clear HB; obtain ⟨HB, BK101, GW101, GE101⟩ := n_; clear hb hbox hg; obtain ⟨z5_0, z5_1, y5_0, y5_1⟩ := bcz2 BK101.out))
  go_ret
  exact ⟨er_, bes_⟩
 ·replace H := ied_ H; rcases H with ⟨c6b0, H⟩ | ⟨c6b0, H⟩
  ·obtain rfl := Option.some.inj H
   go_enter Tryz.func51, Tryz.ntmps51
   go_wp2_with (first | ((with_reducible refine gate_dst (N := 2) rfl ?_); refine bx_ (N := 2) (cs := #[.string a0_0, .string a0_1]) (t := 82) ?_; intro gb101 hg w7 hbox hb; have n_ := an4_ (below_step bel_ hb) (hbox) (gsl_ hg HB.out) (gsl_ hg HB.out); clear HB; obtain ⟨HB, BK101, GW101, GE101⟩ := n_; clear hb hbox hg; obtain ⟨z8_0, z8_1, y8_0, y8_1⟩ := bcz2 BK101.out))
   go_ret
   exact ⟨er_, bes_⟩
  ·obtain rfl := Option.some.inj H
   go_enter Tryz.func51, Tryz.ntmps51
   go_wp2_with (first | ((with_reducible refine gate_dst (N := 2) rfl ?_); refine bx_ (N := 2) (cs := #[.string a0_0, .string a0_1]) (t := 82) ?_; intro gb101 hg w9 hbox hb; have n_ := an4_ (below_step bel_ hb) (hbox) (gsl_ hg HB.out) (gsl_ hg HB.out); clear HB; obtain ⟨HB, BK101, GW101, GE101⟩ := n_; clear hb hbox hg; obtain ⟨z10_0, z10_1, y10_0, y10_1⟩ := bcz2 BK101.out))
   go_ret
   exact ⟨er_, bes_⟩

/-! ### laws_szAttrS: function 28 -/
def laws_szAttrS.l0 : Nat → List (S82) → Int → Int → Option (Int)
 | 0, _, _, _ => none
 | k + 1, x0, x1, x5 => if x5 < (x0.length : Int) then (if 0 ≤ x5 then ((laws_szAttr.f ((rd_T82 x0 x5).f0) ((rd_T82 x0 x5).f1) x1).bind fun t103 => (if t103 < 0 then (some (-1)) else (laws_szAttrS.l0 k x0 t103 (wrap64 (x5 + 1))))) else (none)) else (some x1)
def laws_szAttrS.f (k : Nat) (l0 : List (S82)) (a1 : Int) : Option (Int) := if (wrap64 (a1 - (l0.length : Int))) < 0 then (some (-1)) else (laws_szAttrS.l0 k l0 (wrap64 (a1 - (l0.length : Int))) 0)
theorem laws_szAttrS.calls (k : Nat) (A0 : Option Addr) (c0 : Nat) (l0 : List (S82)) (a1 : Int) (r : Int) (w : World) (hr0 : Kd.C k82 w A0 l0.length l0) (hc0 : l0.length ≤ c0) (h : laws_szAttrS.f k l0 a1 = some r) :
  Calls Tryz.prog 28 #[.slice A0 l0.length c0, .int .i64 a1] w fun e w' => e = .returned (.int .i64 r) ∧ Below w.heap.size w w' := by
 have hu82 := Tryz.underlying82; have HR0 := ak_ hr0; have HC0 := ak_ hc0; clear hr0 hc0; have HB := ak_ (Below.refl w.heap.size w); have H := h; unfold laws_szAttrS.f at H
 clear h; replace H := ied_ H; rcases H with ⟨c3b0, H⟩ | ⟨c3b0, H⟩
 ·obtain rfl := Option.some.inj H
  go_enter Tryz.func28, Tryz.ntmps28
  go_wp2; go_ret
  exact ⟨er_, bel_⟩
 ·have H' := ak_ H; clear H; go_enter Tryz.func28, Tryz.ntmps28
  go_wp2; go_loopg [1, 5] k (fun kq v1 v5 w' => ∃ (x1_1 : Int) (x5_1 : Int), v1 = .int .i64 x1_1 ∧ v5 = .int .i64 x5_1 ∧ Aside0 (laws_szAttrS.l0 kq l0 x1_1 x5_1 = some r) ∧ Aside0 (kq ≤ k) ∧ Aside0 (Below w.heap.size w w'))
  case atStart => exact ⟨(wrap64 (a1 - (l0.length : Int))), (0), sv_, sv_, H', ⟨Nat.le_refl _⟩, ⟨bel_⟩⟩
  case round =>
   clear H'; (try clear c3b0)
   obtain ⟨x1_1, x5_1, rfl, rfl, HA, HK1, HB⟩ := hrel; cases gk with
   | zero => exact absurd HA.out (by simp [laws_szAttrS.l0])
   | succ k1 =>
    have H := HA.out; clear HA; simp only [laws_szAttrS.l0] at H
    replace H := ied_ H; rcases H with ⟨c4b0, H⟩ | ⟨c4b0, H⟩
    ·replace H := itd_ H; obtain ⟨c5b0, H⟩ := H; replace H := bnd_ H; obtain ⟨t103, A6, H⟩ := H; replace H := ied_ H; rcases H with ⟨c7b0, H⟩ | ⟨c7b0, H⟩
     ·obtain rfl := Option.some.inj H
      have p102 : (0 ≤ (x5_1 : Int)) = True := odt_
      have q102 : (x5_1 < (l0.length : Int)) = True := odt_
      obtain ⟨ad102, e102, hx102_0, hx102_1⟩ := at_T82 HR0.out x5_1 oda_ oda_; cases e102; replace hx102_0 := pb_ HB hx102_0; replace hx102_1 := pb_ HB hx102_1; go_wp2_with (first | ((with_reducible refine gate_callee (f := 51) rfl ?_); refine gl_ (some 23) Tryz.func51 #[.agg #[.string ((rd_T82 l0 x5_1).f0), .string ((rd_T82 l0 x5_1).f1)], .int .i64 x1_1] ?_; (with_reducible refine (laws_szAttr.calls ((rd_T82 l0 x5_1).f0) ((rd_T82 l0 x5_1).f1) x1_1 t103 _ A6.out).mono ?_); rintro e w8 ⟨rfl, hb⟩; refine ⟨_, rfl, ?_⟩; replace HB := ak_ (below_step bel_ hb); (try clear hb);(try clear hb2);(try clear hk);(try clear hi)))
      go_ret
      exact ⟨er_, bel_⟩
     ·have H' := ak_ H; clear H; have p102 : (0 ≤ (x5_1 : Int)) = True := odt_
      have q102 : (x5_1 < (l0.length : Int)) = True := odt_
      obtain ⟨ad102, e102, hx102_0, hx102_1⟩ := at_T82 HR0.out x5_1 oda_ oda_; cases e102; replace hx102_0 := pb_ HB hx102_0; replace hx102_1 := pb_ HB hx102_1; go_wp2_with (first | ((with_reducible refine gate_callee (f := 51) rfl ?_); refine gl_ (some 23) Tryz.func51 #[.agg #[.string ((rd_T82 l0 x5_1).f0), .string ((rd_T82 l0 x5_1).f1)], .int .i64 x1_1] ?_; (with_reducible refine (laws_szAttr.calls ((rd_T82 l0 x5_1).f0) ((rd_T82 l0 x5_1).f1) x1_1 t103 _ A6.out).mono ?_); rintro e w9 ⟨rfl, hb⟩; refine ⟨_, rfl, ?_⟩; replace HB := ak_ (below_step bel_ hb); (try clear hb);(try clear hb2);(try clear hk);(try clear hi)))
      go_roundg k1
      case measure => have := HK1.out; omega
      case rel => exact ⟨(t103), (wrap64 (x5_1 + 1)), sv_, sv_, H', ⟨by have := HK1.out; omega⟩, ⟨bel_⟩⟩
    ·obtain rfl := Option.some.inj H
     go_wp2; go_ret
     exact ⟨er_, bel_⟩

/-! ### laws_szNode: function 13 -/
def laws_szNode.f (k : Nat) (a0_0 : ByteArray) (a0_1 : Int) (l0_2 : List (S82)) (a0_3 : ByteArray) (a1 : Int) : Option (Int) := if (wrap64 (a1 - (a0_0.size : Int))) < 0 then (some (-1)) else ((laws_szAttrS.f k l0_2 (wrap64 (a1 - (a0_0.size : Int)))).bind fun t105 => (if t105 < 0 then (some (-1)) else (if (wrap64 (t105 - (a0_3.size : Int))) < 0 then (some (-1)) else (some (wrap64 (t105 - (a0_3.size : Int)))))))
theorem laws_szNode.calls (k : Nat) (a0_0 : ByteArray) (a0_1 : Int) (A0_2 : Option Addr) (c0_2 : Nat) (l0_2 : List (S82)) (a0_3 : ByteArray) (a1 : Int) (r : Int) (w : World) (hr0_2 : Kd.C k82 w A0_2 l0_2.length l0_2) (hc0_2 : l0_2.length ≤ c0_2) (h : laws_szNode.f k a0_0 a0_1 l0_2 a0_3 a1 = some r) :
  Calls Tryz.prog 13 #[.agg #[.string a0_0, .int .i64 a0_1, .slice A0_2 l0_2.length c0_2, .string a0_3], .int .i64 a1] w fun e w' => e = .returned (.int .i64 r) ∧ Below w.heap.size w w' := by
 have hu36 := Tryz.underlying36; have HR0_2 := ak_ hr0_2; have HC0_2 := ak_ hc0_2; clear hr0_2 hc0_2; have HB := ak_ (Below.refl w.heap.size w); have H := h; unfold laws_szNode.f at H
 clear h; replace H := ied_ H; rcases H with ⟨c3b0, H⟩ | ⟨c3b0, H⟩
 ·obtain rfl := Option.some.inj H
  go_enter Tryz.func13, Tryz.ntmps13
  go_wp2_with (first | ((with_reducible refine gate_dst (N := 2) rfl ?_); refine bx_ (N := 2) (cs := #[.string a0_0, .int .i64 a0_1, .slice A0_2 l0_2.length c0_2, .string a0_3]) (t := 36) ?_; intro gb104 hg w4 hbox hb; have n_ := an4_ (below_step bel_ hb) (hbox) (gsl_ hg HB.out) (gsl_ hg HB.out); clear HB; obtain ⟨HB, BK104, GW104, GE104⟩ := n_; clear hb hbox hg; obtain ⟨z5_0, z5_1, z5_2, z5_3, y5_0, y5_1, y5_2, y5_3⟩ := bcz4 BK104.out))
  go_ret
  exact ⟨er_, bes_⟩
 ·replace H := bnd_ H; obtain ⟨t105, A6, H⟩ := H; replace H := ied_ H; rcases H with ⟨c7b0, H⟩ | ⟨c7b0, H⟩
  ·obtain rfl := Option.some.inj H
   go_enter Tryz.func13, Tryz.ntmps13
   go_wp2_with (first | ((with_reducible refine gate_dst (N := 2) rfl ?_); refine bx_ (N := 2) (cs := #[.string a0_0, .int .i64 a0_1, .slice A0_2 l0_2.length c0_2, .string a0_3]) (t := 36) ?_; intro gb104 hg w8 hbox hb; have n_ := an4_ (below_step bel_ hb) (hbox) (gsl_ hg HB.out) (gsl_ hg HB.out); clear HB; obtain ⟨HB, BK104, GW104, GE104⟩ := n_; clear hb hbox hg; obtain ⟨z9_0, z9_1, z9_2, z9_3, y9_0, y9_1, y9_2, y9_3⟩ := bcz4 BK104.out) | ((with_reducible refine gate_callee (f := 28) rfl ?_); refine gl_ (some 15) Tryz.func28 #[.slice A0_2 l0_2.length c0_2, .int .i64 (wrap64 (a1 - (a0_0.size : Int)))] ?_; (with_reducible refine (laws_szAttrS.calls k _ _ l0_2 (wrap64 (a1 - (a0_0.size : Int))) t105 _ ?side1 ?side2 A6.out).mono ?_); (case side1 => exact cs_ (Kd.C_below HR0_2.out HB.out)); (case side2 => exact HC0_2.out); rintro e w10 ⟨rfl, hb⟩; refine ⟨_, rfl, ?_⟩; have n_ := an2_ (blk_below (g := gb104) (o := .cells #[.string a0_0, .int .i64 a0_1, .slice A0_2 l0_2.length c0_2, .string a0_3] 36 (0, 0)) (bk_ BK104.out) hb) (below_step bes_ hb); clear BK104 HB; obtain ⟨BK104, HB⟩ := n_; (try clear hb);(try clear hb2);(try clear hk);(try clear hi)))
   go_ret
   exact ⟨er_, bes_⟩
  ·replace H := ied_ H; rcases H with ⟨c11b0, H⟩ | ⟨c11b0, H⟩
   ·obtain rfl := Option.some.inj H
    go_enter Tryz.func13, Tryz.ntmps13
    go_wp2_with (first | ((with_reducible refine gate_dst (N := 2) rfl ?_); refine bx_ (N := 2) (cs := #[.string a0_0, .int .i64 a0_1, .slice A0_2 l0_2.length c0_2, .string a0_3]) (t := 36) ?_; intro gb104 hg w12 hbox hb; have n_ := an4_ (below_step bel_ hb) (hbox) (gsl_ hg HB.out) (gsl_ hg HB.out); clear HB; obtain ⟨HB, BK104, GW104, GE104⟩ := n_; clear hb hbox hg; obtain ⟨z13_0, z13_1, z13_2, z13_3, y13_0, y13_1, y13_2, y13_3⟩ := bcz4 BK104.out) | ((with_reducible refine gate_callee (f := 28) rfl ?_); refine gl_ (some 15) Tryz.func28 #[.slice A0_2 l0_2.length c0_2, .int .i64 (wrap64 (a1 - (a0_0.size : Int)))] ?_; (with_reducible refine (laws_szAttrS.calls k _ _ l0_2 (wrap64 (a1 - (a0_0.size : Int))) t105 _ ?side1 ?side2 A6.out).mono ?_); (case side1 => exact cs_ (Kd.C_below HR0_2.out HB.out)); (case side2 => exact HC0_2.out); rintro e w14 ⟨rfl, hb⟩; refine ⟨_, rfl, ?_⟩; have n_ := an2_ (blk_below (g := gb104) (o := .cells #[.string a0_0, .int .i64 a0_1, .slice A0_2 l0_2.length c0_2, .string a0_3] 36 (0, 0)) (bk_ BK104.out) hb) (below_step bes_ hb); clear BK104 HB; obtain ⟨BK104, HB⟩ := n_; (try clear hb);(try clear hb2);(try clear hk);(try clear hi); obtain ⟨z15_0, z15_1, z15_2, z15_3, y15_0, y15_1, y15_2, y15_3⟩ := bcz4 BK104.out))
    go_ret
    exact ⟨er_, bes_⟩
   ·obtain rfl := Option.some.inj H
    go_enter Tryz.func13, Tryz.ntmps13
    go_wp2_with (first | ((with_reducible refine gate_dst (N := 2) rfl ?_); refine bx_ (N := 2) (cs := #[.string a0_0, .int .i64 a0_1, .slice A0_2 l0_2.length c0_2, .string a0_3]) (t := 36) ?_; intro gb104 hg w16 hbox hb; have n_ := an4_ (below_step bel_ hb) (hbox) (gsl_ hg HB.out) (gsl_ hg HB.out); clear HB; obtain ⟨HB, BK104, GW104, GE104⟩ := n_; clear hb hbox hg; obtain ⟨z17_0, z17_1, z17_2, z17_3, y17_0, y17_1, y17_2, y17_3⟩ := bcz4 BK104.out) | ((with_reducible refine gate_callee (f := 28) rfl ?_); refine gl_ (some 15) Tryz.func28 #[.slice A0_2 l0_2.length c0_2, .int .i64 (wrap64 (a1 - (a0_0.size : Int)))] ?_; (with_reducible refine (laws_szAttrS.calls k _ _ l0_2 (wrap64 (a1 - (a0_0.size : Int))) t105 _ ?side1 ?side2 A6.out).mono ?_); (case side1 => exact cs_ (Kd.C_below HR0_2.out HB.out)); (case side2 => exact HC0_2.out); rintro e w18 ⟨rfl, hb⟩; refine ⟨_, rfl, ?_⟩; have n_ := an2_ (blk_below (g := gb104) (o := .cells #[.string a0_0, .int .i64 a0_1, .slice A0_2 l0_2.length c0_2, .string a0_3] 36 (0, 0)) (bk_ BK104.out) hb) (below_step bes_ hb); clear BK104 HB; obtain ⟨BK104, HB⟩ := n_; (try clear hb);(try clear hb2);(try clear hk);(try clear hi); obtain ⟨z19_0, z19_1, z19_2, z19_3, y19_0, y19_1, y19_2, y19_3⟩ := bcz4 BK104.out))
    go_ret
    exact ⟨er_, bes_⟩

/-! ### laws_szNodeS: function 4 -/
def laws_szNodeS.l0 : Nat → List (S36) → Int → Int → Option (Int)
 | 0, _, _, _ => none
 | k + 1, x0, x1, x5 => if x5 < (x0.length : Int) then (if 0 ≤ x5 then ((laws_szNode.f k ((rd_T36 x0 x5).f0) ((rd_T36 x0 x5).f1) ((rd_T36 x0 x5).f2) ((rd_T36 x0 x5).f3) x1).bind fun t107 => (if t107 < 0 then (some (-1)) else (laws_szNodeS.l0 k x0 t107 (wrap64 (x5 + 1))))) else (none)) else (some x1)
def laws_szNodeS.f (k : Nat) (l0 : List (S36)) (a1 : Int) : Option (Int) := if (wrap64 (a1 - (l0.length : Int))) < 0 then (some (-1)) else (laws_szNodeS.l0 k l0 (wrap64 (a1 - (l0.length : Int))) 0)
theorem laws_szNodeS.calls (k : Nat) (A0 : Option Addr) (c0 : Nat) (l0 : List (S36)) (a1 : Int) (r : Int) (w : World) (hr0 : Kd.C k36 w A0 l0.length l0) (hc0 : l0.length ≤ c0) (h : laws_szNodeS.f k l0 a1 = some r) :
  Calls Tryz.prog 4 #[.slice A0 l0.length c0, .int .i64 a1] w fun e w' => e = .returned (.int .i64 r) ∧ Below w.heap.size w w' := by
 have hu36 := Tryz.underlying36; have HR0 := ak_ hr0; have HC0 := ak_ hc0; clear hr0 hc0; have HB := ak_ (Below.refl w.heap.size w); have H := h; unfold laws_szNodeS.f at H
 clear h; replace H := ied_ H; rcases H with ⟨c3b0, H⟩ | ⟨c3b0, H⟩
 ·obtain rfl := Option.some.inj H
  go_enter Tryz.func4, Tryz.ntmps4
  go_wp2; go_ret
  exact ⟨er_, bel_⟩
 ·have H' := ak_ H; clear H; go_enter Tryz.func4, Tryz.ntmps4
  go_wp2; go_loopg [1, 5] k (fun kq v1 v5 w' => ∃ (x1_1 : Int) (x5_1 : Int), v1 = .int .i64 x1_1 ∧ v5 = .int .i64 x5_1 ∧ Aside0 (laws_szNodeS.l0 kq l0 x1_1 x5_1 = some r) ∧ Aside0 (kq ≤ k) ∧ Aside0 (Below w.heap.size w w'))
  case atStart => exact ⟨(wrap64 (a1 - (l0.length : Int))), (0), sv_, sv_, H', ⟨Nat.le_refl _⟩, ⟨bel_⟩⟩
  case round =>
   clear H'; (try clear p2);(try clear c3);(try clear c3b0)
   obtain ⟨x1_1, x5_1, rfl, rfl, HA, HK1, HB⟩ := hrel; cases gk with
   | zero => exact absurd HA.out (by simp [laws_szNodeS.l0])
   | succ k1 =>
    have H := HA.out; clear HA; simp only [laws_szNodeS.l0] at H
    replace H := ied_ H; rcases H with ⟨c4b0, H⟩ | ⟨c4b0, H⟩
    ·replace H := itd_ H; obtain ⟨c5b0, H⟩ := H; replace H := bnd_ H; obtain ⟨t107, A6, H⟩ := H; replace H := ied_ H; rcases H with ⟨c7b0, H⟩ | ⟨c7b0, H⟩
     ·obtain rfl := Option.some.inj H
      have p106 : (0 ≤ (x5_1 : Int)) = True := odt_
      have q106 : (x5_1 < (l0.length : Int)) = True := odt_
      obtain ⟨ad106, A106_2, c106_2, e106, hx106_0, hx106_1, hx106_2, hx106_3, hl106_2, hi106_2⟩ := at_T36 HR0.out x5_1 oda_ oda_; cases e106; replace hx106_0 := pb_ HB hx106_0; replace hx106_1 := pb_ HB hx106_1; replace hx106_2 := pb_ HB hx106_2; replace hx106_3 := pb_ HB hx106_3; have HR106_2 := ak_ hi106_2; have HC106_2 := ak_ hl106_2; clear hi106_2 hl106_2; go_wp2_with (first | ((with_reducible refine gate_callee (f := 13) rfl ?_); refine gl_ (some 23) Tryz.func13 #[.agg #[.string ((rd_T36 l0 x5_1).f0), .int .i64 ((rd_T36 l0 x5_1).f1), .slice A106_2 ((rd_T36 l0 x5_1).f2).length c106_2, .string ((rd_T36 l0 x5_1).f3)], .int .i64 x1_1] ?_; (with_reducible refine (laws_szNode.calls k1 ((rd_T36 l0 x5_1).f0) ((rd_T36 l0 x5_1).f1) _ _ ((rd_T36 l0 x5_1).f2) ((rd_T36 l0 x5_1).f3) x1_1 t107 _ ?side1 ?side2 A6.out).mono ?_); (case side1 => exact cs_ (Kd.C_below HR106_2.out HB.out)); (case side2 => exact HC106_2.out); rintro e w8 ⟨rfl, hb⟩; refine ⟨_, rfl, ?_⟩; replace HB := ak_ (below_step bel_ hb); (try clear hb);(try clear hb2);(try clear hk);(try clear hi)))
      go_ret
      exact ⟨er_, bel_⟩
     ·have H' := ak_ H; clear H; have p106 : (0 ≤ (x5_1 : Int)) = True := odt_
      have q106 : (x5_1 < (l0.length : Int)) = True := odt_
      obtain ⟨ad106, A106_2, c106_2, e106, hx106_0, hx106_1, hx106_2, hx106_3, hl106_2, hi106_2⟩ := at_T36 HR0.out x5_1 oda_ oda_; cases e106; replace hx106_0 := pb_ HB hx106_0; replace hx106_1 := pb_ HB hx106_1; replace hx106_2 := pb_ HB hx106_2; replace hx106_3 := pb_ HB hx106_3; have HR106_2 := ak_ hi106_2; have HC106_2 := ak_ hl106_2; clear hi106_2 hl106_2; go_wp2_with (first | ((with_reducible refine gate_callee (f := 13) rfl ?_); refine gl_ (some 23) Tryz.func13 #[.agg #[.string ((rd_T36 l0 x5_1).f0), .int .i64 ((rd_T36 l0 x5_1).f1), .slice A106_2 ((rd_T36 l0 x5_1).f2).length c106_2, .string ((rd_T36 l0 x5_1).f3)], .int .i64 x1_1] ?_; (with_reducible refine (laws_szNode.calls k1 ((rd_T36 l0 x5_1).f0) ((rd_T36 l0 x5_1).f1) _ _ ((rd_T36 l0 x5_1).f2) ((rd_T36 l0 x5_1).f3) x1_1 t107 _ ?side1 ?side2 A6.out).mono ?_); (case side1 => exact cs_ (Kd.C_below HR106_2.out HB.out)); (case side2 => exact HC106_2.out); rintro e w9 ⟨rfl, hb⟩; refine ⟨_, rfl, ?_⟩; replace HB := ak_ (below_step bel_ hb); (try clear hb);(try clear hb2);(try clear hk);(try clear hi)))
      go_roundg k1
      case measure => have := HK1.out; omega
      case rel => exact ⟨(t107), (wrap64 (x5_1 + 1)), sv_, sv_, H', ⟨by have := HK1.out; omega⟩, ⟨bel_⟩⟩
    ·obtain rfl := Option.some.inj H
     go_wp2; go_ret
     exact ⟨er_, bel_⟩

/-! ### spec_l1In: function 29 -/
def spec_l1In.f (a0 : Int) (a1 : Int) (a2 : Int) : Option (Bool) := if a0 ≥ a1 then (some (decide (a0 ≤ a2))) else (some false)
theorem spec_l1In.calls (a0 : Int) (a1 : Int) (a2 : Int) (r : Bool) (w : World) (h : spec_l1In.f a0 a1 a2 = some r) :
  Calls Tryz.prog 29 #[.int .i64 a0, .int .i64 a1, .int .i64 a2] w fun e w' => e = .returned (.bool r) ∧ Drawn0 w w' := by
 have H := h; unfold spec_l1In.f at H
 clear h; replace H := ied_ H; rcases H with ⟨c4b0, H⟩ | ⟨c4b0, H⟩
 ·obtain rfl := Option.some.inj H
  go_enter Tryz.func29, Tryz.ntmps29
  go_wp2; go_ret
  exact dn_
 ·obtain rfl := Option.some.inj H
  go_enter Tryz.func29, Tryz.ntmps29
  go_wp2; go_ret
  exact dn_

/-! ### spec_l4Letter: function 52 -/
def spec_l4Letter.f (a0 : Int) : Option (Bool) := if a0 ≥ 97 then (if a0 ≤ 122 then (some true) else (if a0 ≥ 65 then (if a0 ≤ 90 then (some true) else (some (a0 == 95))) else (some (a0 == 95)))) else (if a0 ≥ 65 then (if a0 ≤ 90 then (some true) else (some (a0 == 95))) else (some (a0 == 95)))
theorem spec_l4Letter.calls (a0 : Int) (r : Bool) (w : World) (h : spec_l4Letter.f a0 = some r) :
  Calls Tryz.prog 52 #[.int .u8 a0] w fun e w' => e = .returned (.bool r) ∧ Drawn0 w w' := by
 have H := h; unfold spec_l4Letter.f at H
 clear h; replace H := ied_ H; rcases H with ⟨c2b0, H⟩ | ⟨c2b0, H⟩
 ·replace H := ied_ H; rcases H with ⟨c3b0, H⟩ | ⟨c3b0, H⟩
  ·obtain rfl := Option.some.inj H
   go_enter Tryz.func52, Tryz.ntmps52
   go_wp2; go_ret
   exact dn_
  ·replace H := ied_ H; rcases H with ⟨c4b0, H⟩ | ⟨c4b0, H⟩
   ·replace H := ied_ H; rcases H with ⟨c5b0, H⟩ | ⟨c5b0, H⟩
    ·obtain rfl := Option.some.inj H
     go_enter Tryz.func52, Tryz.ntmps52
     go_wp2; go_ret
     exact dn_
    ·obtain rfl := Option.some.inj H
     go_enter Tryz.func52, Tryz.ntmps52
     go_wp2; go_ret
     exact dn_
   ·obtain rfl := Option.some.inj H
    go_enter Tryz.func52, Tryz.ntmps52
    go_wp2; go_ret
    exact dn_
 ·replace H := ied_ H; rcases H with ⟨c6b0, H⟩ | ⟨c6b0, H⟩
  ·replace H := ied_ H; rcases H with ⟨c7b0, H⟩ | ⟨c7b0, H⟩
   ·obtain rfl := Option.some.inj H
    go_enter Tryz.func52, Tryz.ntmps52
    go_wp2; go_ret
    exact dn_
   ·obtain rfl := Option.some.inj H
    go_enter Tryz.func52, Tryz.ntmps52
    go_wp2; go_ret
    exact dn_
  ·obtain rfl := Option.some.inj H
   go_enter Tryz.func52, Tryz.ntmps52
   go_wp2; go_ret
   exact dn_

/-! ### spec_l1Digit: function 70 -/
def spec_l1Digit.f (a0 : Int) : Option (Bool) := if a0 ≥ 48 then (some (decide (a0 ≤ 57))) else (some false)
theorem spec_l1Digit.calls (a0 : Int) (r : Bool) (w : World) (h : spec_l1Digit.f a0 = some r) :
  Calls Tryz.prog 70 #[.int .u8 a0] w fun e w' => e = .returned (.bool r) ∧ Drawn0 w w' := by
 have H := h; unfold spec_l1Digit.f at H
 clear h; replace H := ied_ H; rcases H with ⟨c2b0, H⟩ | ⟨c2b0, H⟩
 ·obtain rfl := Option.some.inj H
  go_enter Tryz.func70, Tryz.ntmps70
  go_wp2; go_ret
  exact dn_
 ·obtain rfl := Option.some.inj H
  go_enter Tryz.func70, Tryz.ntmps70
  go_wp2; go_ret
  exact dn_

/-! ### spec_l4Inner: function 53 -/
def spec_l4Inner.f (a0 : Int) : Option (Bool) := (spec_l4Letter.f a0).bind fun t108 => (if t108 = true then (some true) else ((spec_l1Digit.f a0).bind fun t109 => (if t109 = true then (some true) else (if a0 = 45 then (some true) else (if a0 = 58 then (some true) else (some (a0 == 46)))))))
theorem spec_l4Inner.calls (a0 : Int) (r : Bool) (w : World) (h : spec_l4Inner.f a0 = some r) :
  Calls Tryz.prog 53 #[.int .u8 a0] w fun e w' => e = .returned (.bool r) ∧ Drawn0 w w' := by
 have H := h; unfold spec_l4Inner.f at H
 clear h; replace H := bnd_ H; obtain ⟨t108, A2, H⟩ := H; replace H := itb_ H; rcases H with ⟨rfl, H⟩ | ⟨rfl, H⟩
 ·obtain rfl := Option.some.inj H
  go_enter Tryz.func53, Tryz.ntmps53
  go_wp2_with (first | ((with_reducible refine gate_callee (f := 52) rfl ?_); refine gl_ (some 4) Tryz.func52 #[.int .u8 a0] ?_; (with_reducible refine (spec_l4Letter.calls a0 true _ A2.out).mono ?_); rintro e w' ⟨rfl, ⟨nd, rfl⟩⟩; refine ⟨_, rfl, ?_⟩))
  go_ret
  exact dn_
 ·replace H := bnd_ H; obtain ⟨t109, A4, H⟩ := H; replace H := itb_ H; rcases H with ⟨rfl, H⟩ | ⟨rfl, H⟩
  ·obtain rfl := Option.some.inj H
   go_enter Tryz.func53, Tryz.ntmps53
   go_wp2_with (first | ((with_reducible refine gate_callee (f := 52) rfl ?_); refine gl_ (some 4) Tryz.func52 #[.int .u8 a0] ?_; (with_reducible refine (spec_l4Letter.calls a0 false _ A2.out).mono ?_); rintro e w' ⟨rfl, ⟨nd, rfl⟩⟩; refine ⟨_, rfl, ?_⟩) | (go_at_call 70; (with_reducible refine (spec_l1Digit.calls a0 true _ A4.out).mono ?_); rintro e w' ⟨rfl, ⟨nd, rfl⟩⟩))
   go_ret
   exact dn_
  ·replace H := ite_ H; rcases H with ⟨c6, H⟩ | ⟨c6, H⟩
   ·have c6b0 := beq_iff_eq.mpr c6; have c6b1 := bne_eq_false_iff_eq.mpr c6; clear c6; obtain rfl := Option.some.inj H
    go_enter Tryz.func53, Tryz.ntmps53
    go_wp2_with (first | ((with_reducible refine gate_callee (f := 52) rfl ?_); refine gl_ (some 4) Tryz.func52 #[.int .u8 a0] ?_; (with_reducible refine (spec_l4Letter.calls a0 false _ A2.out).mono ?_); rintro e w' ⟨rfl, ⟨nd, rfl⟩⟩; refine ⟨_, rfl, ?_⟩) | (go_at_call 70; (with_reducible refine (spec_l1Digit.calls a0 false _ A4.out).mono ?_); rintro e w' ⟨rfl, ⟨nd, rfl⟩⟩))
    go_ret
    exact dn_
   ·have c6b0 := beq_eq_false_iff_ne.mpr c6; have c6b1 := bne_iff_ne.mpr c6; replace H := ite_ H; rcases H with ⟨c7, H⟩ | ⟨c7, H⟩
    ·have c7b0 := beq_iff_eq.mpr c7; have c7b1 := bne_eq_false_iff_eq.mpr c7; clear c7; obtain rfl := Option.some.inj H
     go_enter Tryz.func53, Tryz.ntmps53
     go_wp2_with (first | ((with_reducible refine gate_callee (f := 52) rfl ?_); refine gl_ (some 4) Tryz.func52 #[.int .u8 a0] ?_; (with_reducible refine (spec_l4Letter.calls a0 false _ A2.out).mono ?_); rintro e w' ⟨rfl, ⟨nd, rfl⟩⟩; refine ⟨_, rfl, ?_⟩) | (go_at_call 70; (with_reducible refine (spec_l1Digit.calls a0 false _ A4.out).mono ?_); rintro e w' ⟨rfl, ⟨nd, rfl⟩⟩))
     go_ret
     exact dn_
    ·have c7b0 := beq_eq_false_iff_ne.mpr c7; have c7b1 := bne_iff_ne.mpr c7; obtain rfl := Option.some.inj H
     go_enter Tryz.func53, Tryz.ntmps53
     go_wp2_with (first | ((with_reducible refine gate_callee (f := 52) rfl ?_); refine gl_ (some 4) Tryz.func52 #[.int .u8 a0] ?_; (with_reducible refine (spec_l4Letter.calls a0 false _ A2.out).mono ?_); rintro e w' ⟨rfl, ⟨nd, rfl⟩⟩; refine ⟨_, rfl, ?_⟩) | (go_at_call 70; (with_reducible refine (spec_l1Digit.calls a0 false _ A4.out).mono ?_); rintro e w' ⟨rfl, ⟨nd, rfl⟩⟩))
     go_ret
     exact dn_

/-! ### spec_l4Name: function 31 -/
mutual
def spec_l4Name.j0 : Nat → ByteArray → Bool → Option (Bool)
 | 0, _, _ => none
 | k + 1, x0, x13 => if x13 = true then (some false) else (spec_l4Name.l0 k x0 0)
def spec_l4Name.l0 : Nat → ByteArray → Int → Option (Bool)
 | 0, _, _ => none
 | k + 1, x0, x3 => if x3 < (x0.size : Int) then (if 0 ≤ x3 then ((spec_l4Inner.f (bt x0 x3)).bind fun t112 => (if t112 = true then (spec_l4Name.l0 k x0 (wrap64 (x3 + 1))) else (some false))) else (none)) else (some true)
end
def spec_l4Name.f (k : Nat) (a0 : ByteArray) : Option (Bool) := (spec_l1In.f (a0.size : Int) 1 30).bind fun t110 => (if t110 = true then (if 0 < (a0.size : Int) then ((spec_l4Letter.f (bt a0 0)).bind fun t111 => (spec_l4Name.j0 k a0 (!t111))) else (none)) else (spec_l4Name.j0 k a0 true))
theorem spec_l4Name.calls (k : Nat) (a0 : ByteArray) (r : Bool) (w : World) (h : spec_l4Name.f k a0 = some r) :
  Calls Tryz.prog 31 #[.string a0] w fun e w' => e = .returned (.bool r) ∧ Drawn0 w w' := by
 have H := h; unfold spec_l4Name.f at H
 clear h; have HC2 := ak_ H; clear H; go_enter Tryz.func31, Tryz.ntmps31
 go_upto_region 1 with (fail)
 go_cut [13] (fun v13 wc => ∃ (kq : Nat) (x13_1 : Bool), v13 = .bool x13_1 ∧ Aside0 (spec_l4Name.j0 kq a0 x13_1 = some r) ∧ Aside0 (kq ≤ k) ∧ Drawn0 w wc)
 case first =>
  have H := HC2.out; clear HC2; replace H := bnd_ H; obtain ⟨t110, A3, H⟩ := H; replace H := itb_ H; rcases H with ⟨rfl, H⟩ | ⟨rfl, H⟩
  ·replace H := itn_ H; obtain ⟨c5, H⟩ := H; have c5b0 := decide_eq_true c5; have c5b1 : decide (0 < a0.size) = true := decide_eq_true (by omega)
   clear c5; (first | rw [c5b0] | (simp only [i64_w, i32_w]; rw [c5b0]) | skip)
   replace H := bnd_ H; obtain ⟨t111, A7, H⟩ := H; have H' := ak_ H; clear H; go_wp2_with (first | ((with_reducible refine gate_callee (f := 29) rfl ?_); refine gl_ (some 6) Tryz.func29 #[.int .i64 (a0.size : Int), .int .i64 1, .int .i64 30] ?_; (with_reducible refine (spec_l1In.calls (a0.size : Int) 1 30 true _ A3.out).mono ?_); rintro e w' ⟨rfl, ⟨nd, rfl⟩⟩; refine ⟨_, rfl, ?_⟩; have p6 : 0 ≤ (0 : Int) := (by omega); have q6 : 0 < a0.size := (by have : (0 : Int) < (a0.size : Int) := oda_; omega); have hx6 : ∀ h : 0 < a0.size, ((a0[0]'h).toNat : Int) = bt a0 0 := bt_at a0 0; clear p6; have qi6 : (0 < (a0.size : Int)) = True := eq_true (oda_); replace q6 := eq_true q6) | (go_at_call 52; (with_reducible refine (spec_l4Letter.calls (bt a0 0) t111 _ A7.out).mono ?_); rintro e w' ⟨rfl, ⟨nd, rfl⟩⟩))
   go_meet
   case rel => exact ⟨_, (!t111), sv_, H', ⟨by first | omega | exact Nat.le_refl _⟩, by repeat (first | exact Drawn0.refl _ | apply Drawn0.step)⟩
  ·have H' := ak_ H; clear H; go_wp2_with (first | ((with_reducible refine gate_callee (f := 29) rfl ?_); refine gl_ (some 6) Tryz.func29 #[.int .i64 (a0.size : Int), .int .i64 1, .int .i64 30] ?_; (with_reducible refine (spec_l1In.calls (a0.size : Int) 1 30 false _ A3.out).mono ?_); rintro e w' ⟨rfl, ⟨nd, rfl⟩⟩; refine ⟨_, rfl, ?_⟩))
   go_meet
   case rel => exact ⟨_, (true), sv_, H', ⟨by first | omega | exact Nat.le_refl _⟩, by repeat (first | exact Drawn0.refl _ | apply Drawn0.step)⟩
 case rest =>
  clear HC2; obtain ⟨kq, x13_1, rfl, HA, HJ1, ⟨mc1, rfl⟩⟩ := hcut; cases kq with
  | zero => exact absurd HA.out (by simp [spec_l4Name.j0])
  | succ kj1 =>
   have H := HA.out; clear HA; simp only [spec_l4Name.j0] at H
   replace H := itb_ H; rcases H with ⟨rfl, H⟩ | ⟨rfl, H⟩
   ·obtain rfl := Option.some.inj H
    go_wp2; go_ret
    exact dn_
   ·have H' := ak_ H; clear H; go_wp2; go_loopg [3] kj1 (fun kq v3 w' => ∃ (x3_2 : Int), v3 = .int .i64 x3_2 ∧ Aside0 (spec_l4Name.l0 kq a0 x3_2 = some r) ∧ Aside0 (kq ≤ kj1) ∧ Drawn0 w w')
    case atStart => exact ⟨(0), sv_, H', ⟨Nat.le_refl _⟩, by repeat (first | exact Drawn0.refl _ | apply Drawn0.step)⟩
    case round =>
     clear H'; obtain ⟨x3_2, rfl, HA, HK2, ⟨m2, rfl⟩⟩ := hrel; cases gk with
     | zero => exact absurd HA.out (by simp [spec_l4Name.l0])
     | succ k2 =>
      have H := HA.out; clear HA; simp only [spec_l4Name.l0] at H
      replace H := ied_ H; rcases H with ⟨c9b0, H⟩ | ⟨c9b0, H⟩
      ·replace H := itd_ H; obtain ⟨c10b0, H⟩ := H; replace H := bnd_ H; obtain ⟨t112, A12, H⟩ := H; replace H := itb_ H; rcases H with ⟨rfl, H⟩ | ⟨rfl, H⟩
       ·have H' := ak_ H; clear H; have p11 : 0 ≤ (x3_2 : Int) := oda_
        have q11 : x3_2 < (a0.size : Int) := oda_
        have hx11 := bt_at a0 x3_2; replace p11 := eq_true p11; replace q11 := eq_true q11; go_wp2_with (first | ((with_reducible refine gate_callee (f := 53) rfl ?_); refine gl_ (some 23) Tryz.func53 #[.int .u8 (bt a0 x3_2)] ?_; (with_reducible refine (spec_l4Inner.calls (bt a0 x3_2) true _ A12.out).mono ?_); rintro e w' ⟨rfl, ⟨nd, rfl⟩⟩; refine ⟨_, rfl, ?_⟩))
        go_roundg k2
        case measure => have := HJ1.out; have := HK2.out; omega
        case rel => exact ⟨(wrap64 (x3_2 + 1)), sv_, H', ⟨by have := HJ1.out; have := HK2.out; omega⟩, by repeat (first | exact Drawn0.refl _ | apply Drawn0.step)⟩
       ·obtain rfl := Option.some.inj H
        have p11 : 0 ≤ (x3_2 : Int) := oda_
        have q11 : x3_2 < (a0.size : Int) := oda_
        have hx11 := bt_at a0 x3_2; replace p11 := eq_true p11; replace q11 := eq_true q11; go_wp2_with (first | ((with_reducible refine gate_callee (f := 53) rfl ?_); refine gl_ (some 23) Tryz.func53 #[.int .u8 (bt a0 x3_2)] ?_; (with_reducible refine (spec_l4Inner.calls (bt a0 x3_2) false _ A12.out).mono ?_); rintro e w' ⟨rfl, ⟨nd, rfl⟩⟩; refine ⟨_, rfl, ?_⟩))
        go_ret
        exact dn_
      ·obtain rfl := Option.some.inj H
       go_wp2; go_ret
       exact dn_

/-! ### spec_l4Rune: function 54 -/
mutual
def spec_l4Rune.j2 : Nat → ByteArray → Int → Int → Option (Int × Int)
 | 0, _, _, _ => none
 | k + 1, x0, x5, x6 => if x5 = 0 then (spec_l4Rune.j3 k x0 x5 x6 true) else (spec_l4Rune.j3 k x0 x5 x6 (decide ((x0.size : Int) < x5)))
def spec_l4Rune.j3 : Nat → ByteArray → Int → Int → Bool → Option (Int × Int)
 | 0, _, _, _, _ => none
 | k + 1, x0, x5, x6, x51 => if x51 = true then (some ((-1), 1)) else (spec_l4Rune.l0 k x0 x5 x6 1)
def spec_l4Rune.l0 : Nat → ByteArray → Int → Int → Int → Option (Int × Int)
 | 0, _, _, _, _ => none
 | k + 1, x0, x5, x6, x7 => if x7 < x5 then (if 0 ≤ x7 then (if x7 < (x0.size : Int) then (if (bt x0 x7) < 128 then (some ((-1), 1)) else (if (bt x0 x7) > 191 then (some ((-1), 1)) else (spec_l4Rune.l0 k x0 x5 (wrap64 ((wrap64 ((wrap64 (x6 * 64)) + (wrap64 (bt x0 x7)))) - 128)) (wrap64 (x7 + 1))))) else (none)) else (none)) else (if x5 = 3 then (if x6 < 2048 then (some ((-1), 1)) else ((spec_l1In.f x6 55296 57343).bind fun t113 => (if t113 = true then (some ((-1), 1)) else (if x5 = 4 then ((spec_l1In.f x6 65536 1114111).bind fun t114 => (if t114 = true then (some (x6, x5)) else (some ((-1), 1)))) else (some (x6, x5)))))) else (if x5 = 4 then ((spec_l1In.f x6 65536 1114111).bind fun t115 => (if t115 = true then (some (x6, x5)) else (some ((-1), 1)))) else (some (x6, x5))))
def spec_l4Rune.j0 : Nat → ByteArray → Int → Int → Int → Bool → Option (Int × Int)
 | 0, _, _, _, _, _ => none
 | k + 1, x0, x4, x5, x6, x14 => if x14 = true then (spec_l4Rune.j2 k x0 2 (wrap64 ((wrap64 (x4)) - 192))) else (if x4 ≥ 224 then (spec_l4Rune.j1 k x0 x4 x5 x6 (decide (x4 ≤ 239))) else (spec_l4Rune.j1 k x0 x4 x5 x6 false))
def spec_l4Rune.j1 : Nat → ByteArray → Int → Int → Int → Bool → Option (Int × Int)
 | 0, _, _, _, _, _ => none
 | k + 1, x0, x4, x5, x6, x24 => if x24 = true then (spec_l4Rune.j2 k x0 3 (wrap64 ((wrap64 (x4)) - 224))) else (if x4 ≥ 240 then (if x4 ≤ 244 then (spec_l4Rune.j2 k x0 4 (wrap64 ((wrap64 (x4)) - 240))) else (spec_l4Rune.j2 k x0 x5 x6)) else (spec_l4Rune.j2 k x0 x5 x6))
end
def spec_l4Rune.f (k : Nat) (a0 : ByteArray) : Option (Int × Int) := if 0 < (a0.size : Int) then (if (bt a0 0) < 128 then (some (wrap64 (bt a0 0), 1)) else (if (bt a0 0) ≥ 194 then (spec_l4Rune.j0 k a0 (bt a0 0) 0 0 (decide ((bt a0 0) ≤ 223))) else (spec_l4Rune.j0 k a0 (bt a0 0) 0 0 false))) else (none)
theorem spec_l4Rune.calls (k : Nat) (a0 : ByteArray) (r1 : Int) (r2 : Int) (w : World) (h : spec_l4Rune.f k a0 = some (r1, r2)) :
  Calls Tryz.prog 54 #[.string a0] w fun e w' => e = .returned (.tuple #[.int .i64 r1, .int .i64 r2]) ∧ Drawn0 w w' := by
 have H := h; unfold spec_l4Rune.f at H
 clear h; replace H := itn_ H; obtain ⟨c2, H⟩ := H; have c2b0 := decide_eq_true c2; have c2b1 : decide (0 < a0.size) = true := decide_eq_true (by omega)
 clear c2; replace H := ied_ H; rcases H with ⟨c4b0, H⟩ | ⟨c4b0, H⟩
 ·simp only [Option.some.injEq, Prod.mk.injEq] at H
  obtain ⟨rfl, rfl⟩ := H; have p3 : 0 ≤ (0 : Int) := (by omega)
  have q3 : 0 < a0.size := (by have : (0 : Int) < (a0.size : Int) := oda_; omega)
  have hx3 : ∀ h : 0 < a0.size, ((a0[0]'h).toNat : Int) = bt a0 0 := bt_at a0 0
  clear p3; have qi3 : (0 < (a0.size : Int)) = True := eq_true (oda_)
  replace q3 := eq_true q3; go_enter Tryz.func54, Tryz.ntmps54
  go_wp2; go_ret2
  exact dn_
 ·have HC5 := ak_ H; clear H; have p3 : 0 ≤ (0 : Int) := (by omega)
  have q3 : 0 < a0.size := (by have : (0 : Int) < (a0.size : Int) := oda_; omega)
  have hx3 : ∀ h : 0 < a0.size, ((a0[0]'h).toNat : Int) = bt a0 0 := bt_at a0 0
  clear p3; have qi3 : (0 < (a0.size : Int)) = True := eq_true (oda_)
  replace q3 := eq_true q3; go_enter Tryz.func54, Tryz.ntmps54
  go_upto_block 0 with (fail)
  go_cut [5, 6] (fun v5 v6 wc => ∃ (kq : Nat) (x5_4 : Int) (x6_4 : Int), v5 = .int .i64 x5_4 ∧ v6 = .int .i64 x6_4 ∧ Aside0 (spec_l4Rune.j2 kq a0 x5_4 x6_4 = some (r1, r2)) ∧ Aside0 (kq ≤ k) ∧ Drawn0 w wc)
  case first =>
   have H := HC5.out; clear HC5; have HC6 := ak_ H; clear H; go_upto_region 6 with (fail)
   go_cut [14] (fun v14 wc => ∃ (kq : Nat) (x14_5 : Bool), v14 = .bool x14_5 ∧ Aside0 (spec_l4Rune.j0 kq a0 (bt a0 0) 0 0 x14_5 = some (r1, r2)) ∧ Aside0 (kq ≤ k) ∧ Drawn0 w wc)
   case first =>
    have H := HC6.out; clear HC6; replace H := ied_ H; rcases H with ⟨c7b0, H⟩ | ⟨c7b0, H⟩
    ·(first | rw [c7b0] | (simp only [i64_w, i32_w]; rw [c7b0]) | skip)
     have H' := ak_ H; clear H; go_wp2; go_meet
     case rel => exact ⟨_, (decide ((bt a0 0) ≤ 223)), sv_, H', ⟨by first | omega | exact Nat.le_refl _⟩, by repeat (first | exact Drawn0.refl _ | apply Drawn0.step)⟩
    ·(first | rw [c7b0] | (simp only [i64_w, i32_w]; rw [c7b0]) | skip)
     have H' := ak_ H; clear H; go_wp2; go_meet
     case rel => exact ⟨_, (false), sv_, H', ⟨by first | omega | exact Nat.le_refl _⟩, by repeat (first | exact Drawn0.refl _ | apply Drawn0.step)⟩
   case rest =>
    clear HC6; (try clear c2b0);(try clear c2b1);(try clear q3);(try clear hx3);(try clear qi3);(try clear c4b0);(try clear q3)
    obtain ⟨kq, x14_5, rfl, HA, HJ5, ⟨mc5, rfl⟩⟩ := hcut; cases kq with
    | zero => exact absurd HA.out (by simp [spec_l4Rune.j0])
    | succ kj5 =>
     have H := HA.out; clear HA; simp only [spec_l4Rune.j0] at H
     replace H := itb_ H; rcases H with ⟨rfl, H⟩ | ⟨rfl, H⟩
     ·have H' := ak_ H; clear H; go_wp2; go_meet
      case rel => exact ⟨_, (2), (wrap64 ((wrap64 ((bt a0 0))) - 192)), sv_, sv_, H', ⟨by have := HJ5.out; first | omega | exact Nat.le_refl _⟩, by repeat (first | exact Drawn0.refl _ | apply Drawn0.step)⟩
     ·have HC9 := ak_ H; clear H; go_upto_region 9 with (fail)
      go_cut [24] (fun v24 wc => ∃ (kq : Nat) (x24_8 : Bool), v24 = .bool x24_8 ∧ Aside0 (spec_l4Rune.j1 kq a0 (bt a0 0) 0 0 x24_8 = some (r1, r2)) ∧ Aside0 (kq ≤ kj5) ∧ Drawn0 w wc)
      case first =>
       have H := HC9.out; clear HC9; replace H := ied_ H; rcases H with ⟨c10b0, H⟩ | ⟨c10b0, H⟩
       ·(first | rw [c10b0] | (simp only [i64_w, i32_w]; rw [c10b0]) | skip)
        have H' := ak_ H; clear H; go_wp2; go_meet
        case rel => exact ⟨_, (decide ((bt a0 0) ≤ 239)), sv_, H', ⟨by have := HJ5.out; first | omega | exact Nat.le_refl _⟩, by repeat (first | exact Drawn0.refl _ | apply Drawn0.step)⟩
       ·(first | rw [c10b0] | (simp only [i64_w, i32_w]; rw [c10b0]) | skip)
        have H' := ak_ H; clear H; go_wp2; go_meet
        case rel => exact ⟨_, (false), sv_, H', ⟨by have := HJ5.out; first | omega | exact Nat.le_refl _⟩, by repeat (first | exact Drawn0.refl _ | apply Drawn0.step)⟩
      case rest =>
       clear HC9; (try clear c2b0);(try clear c2b1);(try clear q3);(try clear hx3);(try clear qi3);(try clear c4b0);(try clear q3)
       obtain ⟨kq, x24_8, rfl, HA, HJ8, ⟨mc8, rfl⟩⟩ := hcut; cases kq with
       | zero => exact absurd HA.out (by simp [spec_l4Rune.j1])
       | succ kj8 =>
        have H := HA.out; clear HA; simp only [spec_l4Rune.j1] at H
        replace H := itb_ H; rcases H with ⟨rfl, H⟩ | ⟨rfl, H⟩
        ·have H' := ak_ H; clear H; go_wp2; go_meet
         case rel => exact ⟨_, (3), (wrap64 ((wrap64 ((bt a0 0))) - 224)), sv_, sv_, H', ⟨by have := HJ5.out; have := HJ8.out; first | omega | exact Nat.le_refl _⟩, by repeat (first | exact Drawn0.refl _ | apply Drawn0.step)⟩
        ·replace H := ied_ H; rcases H with ⟨c12b0, H⟩ | ⟨c12b0, H⟩
         ·replace H := ied_ H; rcases H with ⟨c13b0, H⟩ | ⟨c13b0, H⟩
          ·have H' := ak_ H; clear H; go_wp2; go_meet
           case rel => exact ⟨_, (4), (wrap64 ((wrap64 ((bt a0 0))) - 240)), sv_, sv_, H', ⟨by have := HJ5.out; have := HJ8.out; first | omega | exact Nat.le_refl _⟩, by repeat (first | exact Drawn0.refl _ | apply Drawn0.step)⟩
          ·have H' := ak_ H; clear H; go_wp2; go_meet
           case rel => exact ⟨_, (0), (0), sv_, sv_, H', ⟨by have := HJ5.out; have := HJ8.out; first | omega | exact Nat.le_refl _⟩, by repeat (first | exact Drawn0.refl _ | apply Drawn0.step)⟩
         ·have H' := ak_ H; clear H; go_wp2; go_meet
          case rel => exact ⟨_, (0), (0), sv_, sv_, H', ⟨by have := HJ5.out; have := HJ8.out; first | omega | exact Nat.le_refl _⟩, by repeat (first | exact Drawn0.refl _ | apply Drawn0.step)⟩
  case rest =>
   clear HC5; (try clear c2b0);(try clear c2b1);(try clear q3);(try clear hx3);(try clear qi3);(try clear c4b0);(try clear q3)
   obtain ⟨kq, x5_4, x6_4, rfl, rfl, HA, HJ4, ⟨mc4, rfl⟩⟩ := hcut; cases kq with
   | zero => exact absurd HA.out (by simp [spec_l4Rune.j2])
   | succ kj4 =>
    have H := HA.out; clear HA; simp only [spec_l4Rune.j2] at H
    have HC14 := ak_ H; clear H; go_upto_region 15 with (fail)
    go_cut [51] (fun v51 wc => ∃ (kq : Nat) (x51_13 : Bool), v51 = .bool x51_13 ∧ Aside0 (spec_l4Rune.j3 kq a0 x5_4 x6_4 x51_13 = some (r1, r2)) ∧ Aside0 (kq ≤ kj4) ∧ Drawn0 w wc)
    case first =>
     have H := HC14.out; clear HC14; replace H := ite_ H; rcases H with ⟨c15, H⟩ | ⟨c15, H⟩
     ·have c15b0 := beq_iff_eq.mpr c15; have c15b1 := bne_eq_false_iff_eq.mpr c15; clear c15; (first | rw [c15b0] | (simp only [i64_w, i32_w]; rw [c15b0]) | skip)
      have H' := ak_ H; clear H; go_wp2; go_meet
      case rel => exact ⟨_, (true), sv_, H', ⟨by have := HJ4.out; first | omega | exact Nat.le_refl _⟩, by repeat (first | exact Drawn0.refl _ | apply Drawn0.step)⟩
     ·have c15b0 := beq_eq_false_iff_ne.mpr c15; have c15b1 := bne_iff_ne.mpr c15; (first | rw [c15b0] | (simp only [i64_w, i32_w]; rw [c15b0]) | skip)
      have H' := ak_ H; clear H; go_wp2; go_meet
      case rel => exact ⟨_, (decide ((a0.size : Int) < x5_4)), sv_, H', ⟨by have := HJ4.out; first | omega | exact Nat.le_refl _⟩, by repeat (first | exact Drawn0.refl _ | apply Drawn0.step)⟩
    case rest =>
     clear HC14; (try clear c2b0);(try clear c2b1);(try clear q3);(try clear hx3);(try clear qi3);(try clear c4b0);(try clear q3)
     obtain ⟨kq, x51_13, rfl, HA, HJ13, ⟨mc13, rfl⟩⟩ := hcut; cases kq with
     | zero => exact absurd HA.out (by simp [spec_l4Rune.j3])
     | succ kj13 =>
      have H := HA.out; clear HA; simp only [spec_l4Rune.j3] at H
      replace H := itb_ H; rcases H with ⟨rfl, H⟩ | ⟨rfl, H⟩
      ·simp only [Option.some.injEq, Prod.mk.injEq] at H
       obtain ⟨rfl, rfl⟩ := H; go_wp2; go_ret2
       exact dn_
      ·have H' := ak_ H; clear H; go_wp2; go_loopg [6, 7] kj13 (fun kq v6 v7 w' => ∃ (x6_3 : Int) (x7_3 : Int), v6 = .int .i64 x6_3 ∧ v7 = .int .i64 x7_3 ∧ Aside0 (spec_l4Rune.l0 kq a0 x5_4 x6_3 x7_3 = some (r1, r2)) ∧ Aside0 (kq ≤ kj13) ∧ Drawn0 w w')
       case atStart => exact ⟨(x6_4), (1), sv_, sv_, H', ⟨Nat.le_refl _⟩, by repeat (first | exact Drawn0.refl _ | apply Drawn0.step)⟩
       case round =>
        clear H'; (try clear c2b0);(try clear c2b1);(try clear q3);(try clear hx3);(try clear qi3);(try clear c4b0);(try clear q3)
        obtain ⟨x6_3, x7_3, rfl, rfl, HA, HK3, ⟨m3, rfl⟩⟩ := hrel; cases gk with
        | zero => exact absurd HA.out (by simp [spec_l4Rune.l0])
        | succ k3 =>
         have H := HA.out; clear HA; simp only [spec_l4Rune.l0] at H
         replace H := ied_ H; rcases H with ⟨c17b0, H⟩ | ⟨c17b0, H⟩
         ·replace H := itd_ H; obtain ⟨c18b0, H⟩ := H; replace H := itd_ H; obtain ⟨c19b0, H⟩ := H; replace H := ied_ H; rcases H with ⟨c21b0, H⟩ | ⟨c21b0, H⟩
          ·simp only [Option.some.injEq, Prod.mk.injEq] at H
           obtain ⟨rfl, rfl⟩ := H; have p20 : 0 ≤ (x7_3 : Int) := oda_
           have q20 : x7_3 < (a0.size : Int) := oda_
           have hx20 := bt_at a0 x7_3; replace p20 := eq_true p20; replace q20 := eq_true q20; go_wp2; go_ret2
           exact dn_
          ·replace H := ied_ H; rcases H with ⟨c23b0, H⟩ | ⟨c23b0, H⟩
           ·simp only [Option.some.injEq, Prod.mk.injEq] at H
            obtain ⟨rfl, rfl⟩ := H; have p20 : 0 ≤ (x7_3 : Int) := oda_
            have q20 : x7_3 < (a0.size : Int) := oda_
            have hx20 := bt_at a0 x7_3; replace p20 := eq_true p20; replace q20 := eq_true q20; have p22 : 0 ≤ (x7_3 : Int) := oda_
            have q22 : x7_3 < (a0.size : Int) := oda_
            have hx22 := bt_at a0 x7_3; replace p22 := eq_true p22; replace q22 := eq_true q22; go_wp2; go_ret2
            exact dn_
           ·have H' := ak_ H; clear H; have p20 : 0 ≤ (x7_3 : Int) := oda_
            have q20 : x7_3 < (a0.size : Int) := oda_
            have hx20 := bt_at a0 x7_3; replace p20 := eq_true p20; replace q20 := eq_true q20; have p22 : 0 ≤ (x7_3 : Int) := oda_
            have q22 : x7_3 < (a0.size : Int) := oda_
            have hx22 := bt_at a0 x7_3; replace p22 := eq_true p22; replace q22 := eq_true q22; have p24 : 0 ≤ (x7_3 : Int) := oda_
            have q24 : x7_3 < (a0.size : Int) := oda_
            have hx24 := bt_at a0 x7_3; replace p24 := eq_true p24; replace q24 := eq_true q24; go_wp2; go_roundg k3
            case measure => have := HJ4.out; have := HJ13.out; have := HK3.out; omega
            case rel => exact ⟨(wrap64 ((wrap64 ((wrap64 (x6_3 * 64)) + (wrap64 (bt a0 x7_3)))) - 128)), (wrap64 (x7_3 + 1)), sv_, sv_, H', ⟨by have := HJ4.out; have := HJ13.out; have := HK3.out; omega⟩, by repeat (first | exact Drawn0.refl _ | apply Drawn0.step)⟩
         ·replace H := ite_ H; rcases H with ⟨c25, H⟩ | ⟨c25, H⟩
          ·have c25b0 := beq_iff_eq.mpr c25; have c25b1 := bne_eq_false_iff_eq.mpr c25; clear c25; replace H := ied_ H; rcases H with ⟨c26b0, H⟩ | ⟨c26b0, H⟩
           ·simp only [Option.some.injEq, Prod.mk.injEq] at H
            obtain ⟨rfl, rfl⟩ := H; go_wp2; go_ret2
            exact dn_
           ·replace H := bnd_ H; obtain ⟨t113, A27, H⟩ := H; replace H := itb_ H; rcases H with ⟨rfl, H⟩ | ⟨rfl, H⟩
            ·simp only [Option.some.injEq, Prod.mk.injEq] at H
             obtain ⟨rfl, rfl⟩ := H; go_wp2_with (first | (go_at_call 29; (with_reducible refine (spec_l1In.calls x6_3 55296 57343 true _ A27.out).mono ?_); rintro e w' ⟨rfl, ⟨nd, rfl⟩⟩))
             go_ret2
             exact dn_
            ·replace H := ite_ H; rcases H with ⟨c29, H⟩ | ⟨c29, H⟩
             ·have c29b0 := beq_iff_eq.mpr c29; have c29b1 := bne_eq_false_iff_eq.mpr c29; clear c29; replace H := bnd_ H; obtain ⟨t114, A30, H⟩ := H; replace H := itb_ H; rcases H with ⟨rfl, H⟩ | ⟨rfl, H⟩
              ·simp only [Option.some.injEq, Prod.mk.injEq] at H
               obtain ⟨rfl, rfl⟩ := H; go_wp2_with (first | (go_at_call 29; (with_reducible refine (spec_l1In.calls x6_3 55296 57343 false _ A27.out).mono ?_); rintro e w' ⟨rfl, ⟨nd, rfl⟩⟩) | (go_at_call 29; (with_reducible refine (spec_l1In.calls x6_3 65536 1114111 true _ A30.out).mono ?_); rintro e w' ⟨rfl, ⟨nd, rfl⟩⟩))
               go_ret2
               exact dn_
              ·simp only [Option.some.injEq, Prod.mk.injEq] at H
               obtain ⟨rfl, rfl⟩ := H; go_wp2_with (first | (go_at_call 29; (with_reducible refine (spec_l1In.calls x6_3 55296 57343 false _ A27.out).mono ?_); rintro e w' ⟨rfl, ⟨nd, rfl⟩⟩) | (go_at_call 29; (with_reducible refine (spec_l1In.calls x6_3 65536 1114111 false _ A30.out).mono ?_); rintro e w' ⟨rfl, ⟨nd, rfl⟩⟩))
               go_ret2
               exact dn_
             ·have c29b0 := beq_eq_false_iff_ne.mpr c29; have c29b1 := bne_iff_ne.mpr c29; simp only [Option.some.injEq, Prod.mk.injEq] at H
              obtain ⟨rfl, rfl⟩ := H; go_wp2_with (first | (go_at_call 29; (with_reducible refine (spec_l1In.calls x6_3 55296 57343 false _ A27.out).mono ?_); rintro e w' ⟨rfl, ⟨nd, rfl⟩⟩))
              go_ret2
              exact dn_
          ·have c25b0 := beq_eq_false_iff_ne.mpr c25; have c25b1 := bne_iff_ne.mpr c25; replace H := ite_ H; rcases H with ⟨c32, H⟩ | ⟨c32, H⟩
           ·have c32b0 := beq_iff_eq.mpr c32; have c32b1 := bne_eq_false_iff_eq.mpr c32; clear c32; replace H := bnd_ H; obtain ⟨t115, A33, H⟩ := H; replace H := itb_ H; rcases H with ⟨rfl, H⟩ | ⟨rfl, H⟩
            ·simp only [Option.some.injEq, Prod.mk.injEq] at H
             obtain ⟨rfl, rfl⟩ := H; go_wp2_with (first | (go_at_call 29; (with_reducible refine (spec_l1In.calls x6_3 65536 1114111 true _ A33.out).mono ?_); rintro e w' ⟨rfl, ⟨nd, rfl⟩⟩))
             go_ret2
             exact dn_
            ·simp only [Option.some.injEq, Prod.mk.injEq] at H
             obtain ⟨rfl, rfl⟩ := H; go_wp2_with (first | (go_at_call 29; (with_reducible refine (spec_l1In.calls x6_3 65536 1114111 false _ A33.out).mono ?_); rintro e w' ⟨rfl, ⟨nd, rfl⟩⟩))
             go_ret2
             exact dn_
           ·have c32b0 := beq_eq_false_iff_ne.mpr c32; have c32b1 := bne_iff_ne.mpr c32; simp only [Option.some.injEq, Prod.mk.injEq] at H
            obtain ⟨rfl, rfl⟩ := H; go_wp2; go_ret2
            exact dn_

/-! ### spec_l4May: function 55 -/
def spec_l4May.f (a0 : Int) : Option (Bool) := if a0 = 9 then (some true) else (if a0 = 10 then (some true) else (if a0 = 13 then (some true) else (some (decide (a0 ≥ 32)))))
theorem spec_l4May.calls (a0 : Int) (r : Bool) (w : World) (h : spec_l4May.f a0 = some r) :
  Calls Tryz.prog 55 #[.int .i64 a0] w fun e w' => e = .returned (.bool r) ∧ Drawn0 w w' := by
 have H := h; unfold spec_l4May.f at H
 clear h; replace H := ite_ H; rcases H with ⟨c2, H⟩ | ⟨c2, H⟩
 ·have c2b0 := beq_iff_eq.mpr c2; have c2b1 := bne_eq_false_iff_eq.mpr c2; clear c2; obtain rfl := Option.some.inj H
  go_enter Tryz.func55, Tryz.ntmps55
  go_wp2; go_ret
  exact dn_
 ·have c2b0 := beq_eq_false_iff_ne.mpr c2; have c2b1 := bne_iff_ne.mpr c2; replace H := ite_ H; rcases H with ⟨c3, H⟩ | ⟨c3, H⟩
  ·have c3b0 := beq_iff_eq.mpr c3; have c3b1 := bne_eq_false_iff_eq.mpr c3; clear c3; obtain rfl := Option.some.inj H
   go_enter Tryz.func55, Tryz.ntmps55
   go_wp2; go_ret
   exact dn_
  ·have c3b0 := beq_eq_false_iff_ne.mpr c3; have c3b1 := bne_iff_ne.mpr c3; replace H := ite_ H; rcases H with ⟨c4, H⟩ | ⟨c4, H⟩
   ·have c4b0 := beq_iff_eq.mpr c4; have c4b1 := bne_eq_false_iff_eq.mpr c4; clear c4; obtain rfl := Option.some.inj H
    go_enter Tryz.func55, Tryz.ntmps55
    go_wp2; go_ret
    exact dn_
   ·have c4b0 := beq_eq_false_iff_ne.mpr c4; have c4b1 := bne_iff_ne.mpr c4; obtain rfl := Option.some.inj H
    go_enter Tryz.func55, Tryz.ntmps55
    go_wp2; go_ret
    exact dn_

/-! ### spec_l4Bad: function 33 -/
def spec_l4Bad.l0 : Nat → ByteArray → Int → Option (Int)
 | 0, _, _ => none
 | k + 1, x0, x3 => if x3 < (x0.size : Int) then (if 0 ≤ x3 then (if x3 ≤ (x0.size : Int) then ((spec_l4Rune.f k (x0.extract (x3 : Int).toNat x0.size)).bind fun bt116 => ((spec_l4May.f bt116.1).bind fun t118 => (if t118 = true then (spec_l4Bad.l0 k x0 (wrap64 (x3 + bt116.2))) else (some x3)))) else (none)) else (none)) else (some (-1))
def spec_l4Bad.f (k : Nat) (a0 : ByteArray) : Option (Int) := spec_l4Bad.l0 k a0 0
theorem spec_l4Bad.calls (k : Nat) (a0 : ByteArray) (r : Int) (w : World) (h : spec_l4Bad.f k a0 = some r) :
  Calls Tryz.prog 33 #[.string a0] w fun e w' => e = .returned (.int .i64 r) ∧ Drawn0 w w' := by
 have H := h; unfold spec_l4Bad.f at H
 clear h; have H' := ak_ H; clear H; go_enter Tryz.func33, Tryz.ntmps33
 go_wp2; go_loopg [3] k (fun kq v3 w' => ∃ (x3_1 : Int), v3 = .int .i64 x3_1 ∧ Aside0 (spec_l4Bad.l0 kq a0 x3_1 = some r) ∧ Aside0 (kq ≤ k) ∧ Drawn0 w w')
 case atStart => exact ⟨(0), sv_, H', ⟨Nat.le_refl _⟩, by repeat (first | exact Drawn0.refl _ | apply Drawn0.step)⟩
 case round =>
  clear H'; obtain ⟨x3_1, rfl, HA, HK1, ⟨m1, rfl⟩⟩ := hrel; cases gk with
  | zero => exact absurd HA.out (by simp [spec_l4Bad.l0])
  | succ k1 =>
   have H := HA.out; clear HA; simp only [spec_l4Bad.l0] at H
   replace H := ied_ H; rcases H with ⟨c2b0, H⟩ | ⟨c2b0, H⟩
   ·replace H := itn_ H; obtain ⟨c3, H⟩ := H; have c3b0 := eq_true c3; have c3b1 := decide_eq_true c3; clear c3; replace H := itn_ H; obtain ⟨c4, H⟩ := H; have c4b0 := eq_true c4; have c4b1 := decide_eq_true c4; clear c4; replace H := bnd_ H; obtain ⟨⟨t116, t117⟩, A5, H⟩ := H; (try dsimp only at H); replace H := bnd_ H; obtain ⟨t118, A6, H⟩ := H; replace H := itb_ H; rcases H with ⟨rfl, H⟩ | ⟨rfl, H⟩
    ·have H' := ak_ H; clear H; go_wp2_with (first | ((with_reducible refine gate_callee (f := 54) rfl ?_); refine gl_ (some 14) Tryz.func54 #[.string (a0.extract (x3_1 : Int).toNat a0.size)] ?_; (with_reducible refine (spec_l4Rune.calls k1 (a0.extract (x3_1 : Int).toNat a0.size) t116 t117 _ A5.out).mono ?_); rintro e w' ⟨rfl, ⟨nd, rfl⟩⟩; refine ⟨_, rfl, ?_⟩) | ((with_reducible refine gate_callee (f := 55) rfl ?_); refine gl_ (some 18) Tryz.func55 #[.int .i64 t116] ?_; (with_reducible refine (spec_l4May.calls t116 true _ A6.out).mono ?_); rintro e w' ⟨rfl, ⟨nd, rfl⟩⟩; refine ⟨_, rfl, ?_⟩))
     go_roundg k1
     case measure => have := HK1.out; omega
     case rel => exact ⟨(wrap64 (x3_1 + t117)), sv_, H', ⟨by have := HK1.out; omega⟩, by repeat (first | exact Drawn0.refl _ | apply Drawn0.step)⟩
    ·obtain rfl := Option.some.inj H
     go_wp2_with (first | ((with_reducible refine gate_callee (f := 54) rfl ?_); refine gl_ (some 14) Tryz.func54 #[.string (a0.extract (x3_1 : Int).toNat a0.size)] ?_; (with_reducible refine (spec_l4Rune.calls k1 (a0.extract (x3_1 : Int).toNat a0.size) t116 t117 _ A5.out).mono ?_); rintro e w' ⟨rfl, ⟨nd, rfl⟩⟩; refine ⟨_, rfl, ?_⟩) | ((with_reducible refine gate_callee (f := 55) rfl ?_); refine gl_ (some 18) Tryz.func55 #[.int .i64 t116] ?_; (with_reducible refine (spec_l4May.calls t116 false _ A6.out).mono ?_); rintro e w' ⟨rfl, ⟨nd, rfl⟩⟩; refine ⟨_, rfl, ?_⟩))
     go_ret
     exact dn_
   ·obtain rfl := Option.some.inj H
    go_wp2; go_ret
    exact dn_

/-! ### spec_l4Attrs: function 30 -/
mutual
def spec_l4Attrs.l0 : Nat → List (S76) → List (S76) → Int → Int → Option (Bool)
 | 0, _, _, _, _ => none
 | k + 1, x0, x10, x11, x12 => if x12 < x11 then (if 0 ≤ x12 then (if x12 < (x10.length : Int) then ((spec_l4Name.f k ((rd_T76 x10 x12).f0)).bind fun t121 => (if t121 = true then ((spec_l4Bad.f k ((rd_T76 x10 x12).f1)).bind fun t122 => (spec_l4Attrs.j1 k x0 x12 x10 x11 x12 (decide (t122 ≥ 0)) ((rd_T76 x10 x12).f0) ((rd_T76 x10 x12).f1))) else (spec_l4Attrs.j1 k x0 x12 x10 x11 x12 true ((rd_T76 x10 x12).f0) ((rd_T76 x10 x12).f1)))) else (none)) else (none)) else (some true)
def spec_l4Attrs.j1 : Nat → List (S76) → Int → List (S76) → Int → Int → Bool → ByteArray → ByteArray → Option (Bool)
 | 0, _, _, _, _, _, _, _, _ => none
 | k + 1, x0, x3, x10, x11, x12, x26, x121000, x121001 => if x26 = true then (some false) else (if 0 ≤ x3 then (if x3 ≤ (x0.length : Int) then ((some (x0.take (x3 : Int).toNat : List (S76))).bind fun y123 => (spec_l4Attrs.l1 k x0 x10 x11 x12 y123 (y123.length : Int) 0 x121000 x121001)) else (none)) else (none))
def spec_l4Attrs.l1 : Nat → List (S76) → List (S76) → Int → Int → List (S76) → Int → Int → ByteArray → ByteArray → Option (Bool)
 | 0, _, _, _, _, _, _, _, _, _ => none
 | k + 1, x0, x10, x11, x12, x29, x30, x31, x121000, x121001 => if x31 < x30 then (if 0 ≤ x31 then (if x31 < (x29.length : Int) then (if ((rd_T76 x29 x31).f0).toList = x121000.toList then (some false) else (spec_l4Attrs.l1 k x0 x10 x11 x12 x29 x30 (wrap64 (x31 + 1)) x121000 x121001)) else (none)) else (none)) else (spec_l4Attrs.l0 k x0 x10 x11 (wrap64 (x12 + 1)))
end
def spec_l4Attrs.f (k : Nat) (l0 : List (S76)) : Option (Bool) := if (l0.length : Int) > 12 then (some false) else (spec_l4Attrs.l0 k l0 l0 (l0.length : Int) 0)
theorem spec_l4Attrs.calls (k : Nat) (A0 : Option Addr) (c0 : Nat) (l0 : List (S76)) (r : Bool) (w : World) (hr0 : Kd.C k76 w A0 l0.length l0) (hc0 : l0.length ≤ c0) (h : spec_l4Attrs.f k l0 = some r) :
  Calls Tryz.prog 30 #[.slice A0 l0.length c0] w fun e w' => e = .returned (.bool r) ∧ Below w.heap.size w w' := by
 have hu76 := Tryz.underlying76; have HR0 := ak_ hr0; have HC0 := ak_ hc0; clear hr0 hc0; have HB := ak_ (Below.refl w.heap.size w); have H := h; unfold spec_l4Attrs.f at H
 clear h; replace H := ite_ H; rcases H with ⟨c2, H⟩ | ⟨c2, H⟩
 ·have c2b0 := decide_eq_true c2; have c2b1 : decide (12 < l0.length) = true := decide_eq_true (by omega)
  clear c2; obtain rfl := Option.some.inj H
  go_enter Tryz.func30, Tryz.ntmps30
  go_wp2; go_ret
  exact ⟨er_, bel_⟩
 ·have c2b0 := decide_eq_false c2; have c2b1 : decide (12 < l0.length) = false := decide_eq_false (by omega)
  clear c2; have H' := ak_ H; clear H; go_enter Tryz.func30, Tryz.ntmps30
  go_wp2; go_loopg [12] k (fun kq v12 w' => ∃ (x12_1 : Int), v12 = .int .i64 x12_1 ∧ Aside0 (spec_l4Attrs.l0 kq l0 l0 (l0.length : Int) x12_1 = some r) ∧ Aside0 (kq ≤ k) ∧ Aside0 (Below w.heap.size w w'))
  case atStart => exact ⟨(0), sv_, H', ⟨Nat.le_refl _⟩, ⟨bel_⟩⟩
  case round =>
   clear H'; (try clear c2b0);(try clear c2b1)
   obtain ⟨x12_1, rfl, HA, HK1, HB⟩ := hrel; cases gk with
   | zero => exact absurd HA.out (by simp [spec_l4Attrs.l0])
   | succ k1 =>
    have H := HA.out; clear HA; simp only [spec_l4Attrs.l0] at H
    replace H := ied_ H; rcases H with ⟨c3b0, H⟩ | ⟨c3b0, H⟩
    ·replace H := itd_ H; obtain ⟨c4b0, H⟩ := H; replace H := itd_ H; obtain ⟨c5b0, H⟩ := H; have HC6 := ak_ H; clear H; have p119 : (0 ≤ (x12_1 : Int)) = True := odt_
     have q119 : (x12_1 < (l0.length : Int)) = True := odt_
     obtain ⟨ad119, e119, hx119_0, hx119_1⟩ := at_T76 HR0.out x12_1 oda_ oda_; cases e119; replace hx119_0 := pb_ HB hx119_0; replace hx119_1 := pb_ HB hx119_1; go_upto_region 6 with (first | ((with_reducible refine gate_dst (N := 4) rfl ?_); refine bx_ (N := 4) (cs := #[.string (⟨#[]⟩ : ByteArray), .string (⟨#[]⟩ : ByteArray)]) (t := 76) ?_; intro gb120 hg w7 hbox hb; have n_ := an4_ (below_step bel_ hb) (hbox) (gsl_ hg HB.out) (gsl_ hg HB.out); clear HB; obtain ⟨HB, BK120, GW120, GE120⟩ := n_; clear hb hbox hg; obtain ⟨z8_0, z8_1, y8_0, y8_1⟩ := bcz2 BK120.out))
     (try simp only [Act.put, List.setIfInBounds_toArray, List.set_cons_zero, List.set_cons_succ])
     go_cut [26] (fun v26 wc => ∃ (kq : Nat) (x26_5 : Bool), v26 = .bool x26_5 ∧ Aside0 (spec_l4Attrs.j1 kq l0 x12_1 l0 (l0.length : Int) x12_1 x26_5 ((rd_T76 l0 x12_1).f0) ((rd_T76 l0 x12_1).f1) = some r) ∧ Aside0 (kq ≤ k1) ∧ Aside0 (wc.heap[gb120]? = some (.cells #[.string ((rd_T76 l0 x12_1).f0), .string ((rd_T76 l0 x12_1).f1)] 76 (0, 0))) ∧ Aside0 (Below w.heap.size w wc))
     case first =>
      have H := HC6.out; clear HC6; replace H := bnd_ H; obtain ⟨t121, A9, H⟩ := H; replace H := itb_ H; rcases H with ⟨rfl, H⟩ | ⟨rfl, H⟩
      ·replace H := bnd_ H; obtain ⟨t122, A11, H⟩ := H; have H' := ak_ H; clear H; obtain ⟨z12_0, z12_1, y12_0, y12_1⟩ := bcz2 BK120.out; go_wp2_with (first | ((with_reducible refine gate_callee (f := 31) rfl ?_); refine gl_ (some 19) Tryz.func31 #[.string ((rd_T76 l0 x12_1).f0)] ?_; (with_reducible refine (spec_l4Name.calls k1 ((rd_T76 l0 x12_1).f0) true _ A9.out).mono ?_); rintro e w' ⟨rfl, ⟨nd, rfl⟩⟩; refine ⟨_, rfl, ?_⟩) | (go_at_call 33; (with_reducible refine (spec_l4Bad.calls k1 ((rd_T76 l0 x12_1).f1) t122 _ A11.out).mono ?_); rintro e w' ⟨rfl, ⟨nd, rfl⟩⟩))
       go_meet
       case rel => exact ⟨_, (decide (t122 ≥ 0)), sv_, H', ⟨by have := HK1.out; first | omega | exact Nat.le_refl _⟩, ⟨bp_ BK120.out⟩, ⟨bes_⟩⟩
      ·have H' := ak_ H; clear H; obtain ⟨z13_0, z13_1, y13_0, y13_1⟩ := bcz2 BK120.out; go_wp2_with (first | ((with_reducible refine gate_callee (f := 31) rfl ?_); refine gl_ (some 19) Tryz.func31 #[.string ((rd_T76 l0 x12_1).f0)] ?_; (with_reducible refine (spec_l4Name.calls k1 ((rd_T76 l0 x12_1).f0) false _ A9.out).mono ?_); rintro e w' ⟨rfl, ⟨nd, rfl⟩⟩; refine ⟨_, rfl, ?_⟩))
       go_meet
       case rel => exact ⟨_, (true), sv_, H', ⟨by have := HK1.out; first | omega | exact Nat.le_refl _⟩, ⟨bp_ BK120.out⟩, ⟨bes_⟩⟩
     case rest =>
      clear HC6; (try clear c2b0);(try clear c2b1);(try clear c3b0);(try clear c4b0);(try clear c5b0);(try clear z8_0);(try clear z8_1);(try clear y8_0);(try clear y8_1);(try clear hx119_0);(try clear hx119_1);(try clear p119);(try clear q119)
      obtain ⟨kq, x26_5, rfl, HA, HJ5, BK120, HB⟩ := hcut; cases kq with
      | zero => exact absurd HA.out (by simp [spec_l4Attrs.j1])
      | succ kj5 =>
       have H := HA.out; clear HA; simp only [spec_l4Attrs.j1] at H
       replace H := itb_ H; rcases H with ⟨rfl, H⟩ | ⟨rfl, H⟩
       ·obtain rfl := Option.some.inj H
        go_wp2; go_ret
        exact ⟨er_, bes_⟩
       ·replace H := itn_ H; obtain ⟨c15, H⟩ := H; have c15b0 := eq_true c15; have c15b1 := decide_eq_true c15; clear c15; replace H := itn_ H; obtain ⟨c16, H⟩ := H; have c16b0 := eq_true c16; have c16b1 := decide_eq_true c16; clear c16; replace H := nams_ H; obtain ⟨y123, Ny123, H⟩ := H; have H' := ak_ H; clear H; have q17 : (x12_1 : Int) ≤ ((l0.length : Int) : Int) := oda_
        obtain ⟨i017, hi017, _, hsz17, _⟩ := info_parts info76; have hroom17 : l0.length ≤ c0 := HC0.out
        have hC17 : Kd.C k76 _ (some ad119) l0.length l0 := HR0.out
        have hcut17 := cut_to (P := Tryz.prog) 38 76 .i64 Tryz.underlying38 hi017 (some ad119) l0.length c0 x12_1 (oda_) q17 hroom17; have hr17 := Kd.C_take (m := (x12_1 : Int).toNat) hC17 (by omega); have hy17 : y123.length = (x12_1 : Int).toNat := (by rw [Ny123.out, List.length_take]; omega)
        rw [← Ny123.out] at hr17; rw [← hy17] at hcut17; have HR126 := ak_ hr17; have HC126 := ak_ (show y123.length ≤ c0 from by omega); clear hr17 hC17 hroom17 hi017 hsz17; have KY17 := ak_ hy17; clear hy17; replace q17 := eq_true q17; go_wp2; go_loopg [31] kj5 (fun kq v31 w' => ∃ (x31_3 : Int), v31 = .int .i64 x31_3 ∧ Aside0 (spec_l4Attrs.l1 kq l0 l0 (l0.length : Int) x12_1 y123 (y123.length : Int) x31_3 ((rd_T76 l0 x12_1).f0) ((rd_T76 l0 x12_1).f1) = some r) ∧ Aside0 (kq ≤ kj5) ∧ Aside0 (w'.heap[gb120]? = some (.cells #[.string ((rd_T76 l0 x12_1).f0), .string ((rd_T76 l0 x12_1).f1)] 76 (0, 0))) ∧ Aside0 (Below w.heap.size w w'))
        case atStart => exact ⟨(0), sv_, H', ⟨Nat.le_refl _⟩, ⟨bp_ BK120.out⟩, ⟨bes_⟩⟩
        case round =>
         clear H'; (try clear c2b0);(try clear c2b1);(try clear c3b0);(try clear c4b0);(try clear c5b0);(try clear c15b0);(try clear c15b1);(try clear c16b0);(try clear c16b1);(try clear q17);(try clear z8_0);(try clear z8_1);(try clear y8_0);(try clear y8_1);(try clear hx119_0);(try clear hx119_1);(try clear p119);(try clear q119);(try clear q17)
         obtain ⟨x31_3, rfl, HA, HK3, BK120, HB⟩ := hrel; cases gk with
         | zero => exact absurd HA.out (by simp [spec_l4Attrs.l1])
         | succ k3 =>
          have H := HA.out; clear HA; simp only [spec_l4Attrs.l1] at H
          replace H := ied_ H; rcases H with ⟨c18b0, H⟩ | ⟨c18b0, H⟩
          ·replace H := itd_ H; obtain ⟨c19b0, H⟩ := H; replace H := itd_ H; obtain ⟨c20b0, H⟩ := H; replace H := ite_ H; rcases H with ⟨c21, H⟩ | ⟨c21, H⟩
           ·have c21b0 := beq_iff_eq.mpr c21; have c21b1 := bne_eq_false_iff_eq.mpr c21; clear c21; obtain rfl := Option.some.inj H
            have p127 : (0 ≤ (x31_3 : Int)) = True := odt_
            have q127 : (x31_3 < (y123.length : Int)) = True := odt_
            obtain ⟨ad127, e127, hx127_0, hx127_1⟩ := at_T76 HR126.out x31_3 oda_ oda_; obtain rfl : ad119 = ad127 := (by injection e127)
            replace hx127_0 := pb_ HB hx127_0; replace hx127_1 := pb_ HB hx127_1; go_wp2_with (first | ((with_reducible refine gate_dst (N := 6) rfl ?_); refine bx_ (N := 6) (cs := #[.string (⟨#[]⟩ : ByteArray), .string (⟨#[]⟩ : ByteArray)]) (t := 76) ?_; intro gb128 hg w22 hbox hb; have n_ := an7_ (blk_below (g := gb120) (o := .cells #[.string ((rd_T76 l0 x12_1).f0), .string ((rd_T76 l0 x12_1).f1)] 76 (0, 0)) (bk_ BK120.out) hb) (below_step bes_ hb) (hbox) (gsl_ hg HB.out) (gsl_ hg HB.out) ((by rw [hg]; exact Nat.ne_of_lt (blk_lt (g := gb120) (o := .cells #[.string ((rd_T76 l0 x12_1).f0), .string ((rd_T76 l0 x12_1).f1)] 76 (0, 0)) (bk_ BK120.out)) : gb120 ≠ gb128)) ((by rw [hg]; exact Nat.ne_of_gt (blk_lt (g := gb120) (o := .cells #[.string ((rd_T76 l0 x12_1).f0), .string ((rd_T76 l0 x12_1).f1)] 76 (0, 0)) (bk_ BK120.out)) : gb128 ≠ gb120)); clear BK120 HB; obtain ⟨BK120, HB, BK128, GW128, GE128, NB120_128, NB128_120⟩ := n_; clear hb hbox hg; have hnb23 := NB128_120.out; have hnc23 := NB120_128.out; obtain ⟨z24_0, z24_1, y24_0, y24_1⟩ := bcz2 BK128.out; obtain ⟨z25_0, z25_1, y25_0, y25_1⟩ := bcz2 BK120.out))
            go_ret
            exact ⟨er_, bes_⟩
           ·have c21b0 := beq_eq_false_iff_ne.mpr c21; have c21b1 := bne_iff_ne.mpr c21; have H' := ak_ H; clear H; have p127 : (0 ≤ (x31_3 : Int)) = True := odt_
            have q127 : (x31_3 < (y123.length : Int)) = True := odt_
            obtain ⟨ad127, e127, hx127_0, hx127_1⟩ := at_T76 HR126.out x31_3 oda_ oda_; obtain rfl : ad119 = ad127 := (by injection e127)
            replace hx127_0 := pb_ HB hx127_0; replace hx127_1 := pb_ HB hx127_1; go_wp2_with (first | ((with_reducible refine gate_dst (N := 6) rfl ?_); refine bx_ (N := 6) (cs := #[.string (⟨#[]⟩ : ByteArray), .string (⟨#[]⟩ : ByteArray)]) (t := 76) ?_; intro gb128 hg w26 hbox hb; have n_ := an7_ (blk_below (g := gb120) (o := .cells #[.string ((rd_T76 l0 x12_1).f0), .string ((rd_T76 l0 x12_1).f1)] 76 (0, 0)) (bk_ BK120.out) hb) (below_step bes_ hb) (hbox) (gsl_ hg HB.out) (gsl_ hg HB.out) ((by rw [hg]; exact Nat.ne_of_lt (blk_lt (g := gb120) (o := .cells #[.string ((rd_T76 l0 x12_1).f0), .string ((rd_T76 l0 x12_1).f1)] 76 (0, 0)) (bk_ BK120.out)) : gb120 ≠ gb128)) ((by rw [hg]; exact Nat.ne_of_gt (blk_lt (g := gb120) (o := .cells #[.string ((rd_T76 l0 x12_1).f0), .string ((rd_T76 l0 x12_1).f1)] 76 (0, 0)) (bk_ BK120.out)) : gb128 ≠ gb120)); clear BK120 HB; obtain ⟨BK120, HB, BK128, GW128, GE128, NB120_128, NB128_120⟩ := n_; clear hb hbox hg; have hnb27 := NB128_120.out; have hnc27 := NB120_128.out; obtain ⟨z28_0, z28_1, y28_0, y28_1⟩ := bcz2 BK128.out; obtain ⟨z29_0, z29_1, y29_0, y29_1⟩ := bcz2 BK120.out))
            go_roundg k3
            case measure => have := HK1.out; have := HJ5.out; have := HK3.out; omega
            case rel => exact ⟨(wrap64 (x31_3 + 1)), sv_, H', ⟨by have := HK1.out; have := HJ5.out; have := HK3.out; omega⟩, ⟨bp_ BK120.out⟩, ⟨bes_⟩⟩
          ·have H' := ak_ H; clear H; go_wp2; go_roundg k3
           case measure => have := HK1.out; have := HJ5.out; have := HK3.out; omega
           case rel => exact ⟨(wrap64 (x12_1 + 1)), sv_, H', ⟨by have := HK1.out; have := HJ5.out; have := HK3.out; omega⟩, ⟨bes_⟩⟩
    ·obtain rfl := Option.some.inj H
     go_wp2; go_ret
     exact ⟨er_, bel_⟩

/-! ### spec_l4Deep: function 32 -/
def spec_l4Deep.l0 : Nat → List (S40) → Int → Int → Option (Int)
 | 0, _, _, _ => none
 | k + 1, x0, x1, x5 => if x1 ≥ 0 then (if 0 ≤ x1 then (if x1 < (x0.length : Int) then (spec_l4Deep.l0 k x0 ((rd_T40 x0 x1).f1) (wrap64 (x5 + 1))) else (none)) else (none)) else (some x5)
def spec_l4Deep.f (k : Nat) (l0 : List (S40)) (a1 : Int) : Option (Int) := spec_l4Deep.l0 k l0 a1 0
theorem spec_l4Deep.calls (k : Nat) (A0 : Option Addr) (c0 : Nat) (l0 : List (S40)) (a1 : Int) (r : Int) (w : World) (hr0 : Kd.C k40 w A0 l0.length l0) (hc0 : l0.length ≤ c0) (h : spec_l4Deep.f k l0 a1 = some r) :
  Calls Tryz.prog 32 #[.slice A0 l0.length c0, .int .i64 a1] w fun e w' => e = .returned (.int .i64 r) ∧ Drawn0 w w' := by
 have HR0 := ak_ hr0; have HC0 := ak_ hc0; clear hr0 hc0; have H := h; unfold spec_l4Deep.f at H
 clear h; have H' := ak_ H; clear H; go_enter Tryz.func32, Tryz.ntmps32
 go_wp2; go_loopg [1, 5] k (fun kq v1 v5 w' => ∃ (x1_1 : Int) (x5_1 : Int), v1 = .int .i64 x1_1 ∧ v5 = .int .i64 x5_1 ∧ Aside0 (spec_l4Deep.l0 kq l0 x1_1 x5_1 = some r) ∧ Aside0 (kq ≤ k) ∧ Drawn0 w w')
 case atStart => exact ⟨(a1), (0), sv_, sv_, H', ⟨Nat.le_refl _⟩, by repeat (first | exact Drawn0.refl _ | apply Drawn0.step)⟩
 case round =>
  clear H'; (try clear p2)
  obtain ⟨x1_1, x5_1, rfl, rfl, HA, HK1, ⟨m1, rfl⟩⟩ := hrel; cases gk with
  | zero => exact absurd HA.out (by simp [spec_l4Deep.l0])
  | succ k1 =>
   have H := HA.out; clear HA; simp only [spec_l4Deep.l0] at H
   replace H := ied_ H; rcases H with ⟨c3b0, H⟩ | ⟨c3b0, H⟩
   ·replace H := itd_ H; obtain ⟨c4b0, H⟩ := H; replace H := itd_ H; obtain ⟨c5b0, H⟩ := H; have H' := ak_ H; clear H; have p129 : (0 ≤ (x1_1 : Int)) = True := odt_
    have q129 : (x1_1 < (l0.length : Int)) = True := odt_
    obtain ⟨ad129, A129_2, c129_2, e129, hx129_0, hx129_1, hx129_2, hx129_3, hl129_2, hi129_2⟩ := at_T40 HR0.out x1_1 oda_ oda_; cases e129; have HR129_2 := ak_ hi129_2; have HC129_2 := ak_ hl129_2; clear hi129_2 hl129_2; go_wp2; go_roundg k1
    case measure => have := HK1.out; omega
    case rel => exact ⟨((rd_T40 l0 x1_1).f1), (wrap64 (x5_1 + 1)), sv_, sv_, H', ⟨by have := HK1.out; omega⟩, by repeat (first | exact Drawn0.refl _ | apply Drawn0.step)⟩
   ·obtain rfl := Option.some.inj H
    go_wp2; go_ret
    exact dn_

/-! ### spec_GoodNodes: function 14 -/
mutual
def spec_GoodNodes.l0 : Nat → List (S40) → List (S40) → Int → Int → Option (Bool)
 | 0, _, _, _, _ => none
 | k + 1, x0, x10, x11, x12 => if x12 < x11 then (if 0 ≤ x12 then (if x12 < (x10.length : Int) then ((spec_l1In.f ((rd_T40 x10 x12).f1) (-1) (wrap64 (x12 - 1))).bind fun t133 => (if t133 = true then (if ((((rd_T40 x10 x12).f1) == (-1)) != (x12 == 0)) = true then (spec_GoodNodes.j1 k x0 x12 x10 x11 x12 true ((rd_T40 x10 x12).f0) ((rd_T40 x10 x12).f1) ((rd_T40 x10 x12).f2) ((rd_T40 x10 x12).f3)) else ((spec_l4Attrs.f k ((rd_T40 x10 x12).f2)).bind fun t134 => (spec_GoodNodes.j1 k x0 x12 x10 x11 x12 (!t134) ((rd_T40 x10 x12).f0) ((rd_T40 x10 x12).f1) ((rd_T40 x10 x12).f2) ((rd_T40 x10 x12).f3)))) else (spec_GoodNodes.j1 k x0 x12 x10 x11 x12 true ((rd_T40 x10 x12).f0) ((rd_T40 x10 x12).f1) ((rd_T40 x10 x12).f2) ((rd_T40 x10 x12).f3)))) else (none)) else (none)) else (some true)
def spec_GoodNodes.j1 : Nat → List (S40) → Int → List (S40) → Int → Int → Bool → ByteArray → Int → List (S76) → ByteArray → Option (Bool)
 | 0, _, _, _, _, _, _, _, _, _, _ => none
 | k + 1, x0, x3, x10, x11, x12, x36, x133000, x133001, x133002, x133003 => if x36 = true then (some false) else (if x3 > 0 then (spec_GoodNodes.l1 k x0 x3 (wrap64 (x3 - 1)) x10 x11 x12 x133000 x133001 x133002 x133003) else (spec_GoodNodes.j3 k x0 x3 x10 x11 x12 x133000 x133001 x133002 x133003))
def spec_GoodNodes.j3 : Nat → List (S40) → Int → List (S40) → Int → Int → ByteArray → Int → List (S76) → ByteArray → Option (Bool)
 | 0, _, _, _, _, _, _, _, _, _ => none
 | k + 1, x0, x3, x10, x11, x12, x133000, x133001, x133002, x133003 => if x133000.toList = ([] : List UInt8) then (if x3 = 0 then (spec_GoodNodes.j4 k x0 x3 x10 x11 x12 true x133000 x133001 x133002 x133003) else (if (x133002.length : Int) > 0 then (spec_GoodNodes.j4 k x0 x3 x10 x11 x12 true x133000 x133001 x133002 x133003) else (if x133003.toList = ([] : List UInt8) then (spec_GoodNodes.j4 k x0 x3 x10 x11 x12 true x133000 x133001 x133002 x133003) else ((spec_l4Bad.f k x133003).bind fun t140 => (spec_GoodNodes.j4 k x0 x3 x10 x11 x12 (decide (t140 ≥ 0)) x133000 x133001 x133002 x133003))))) else ((spec_l4Name.f k x133000).bind fun t138 => (if t138 = true then (if x133003.toList = ([] : List UInt8) then ((spec_l4Deep.f k x0 x3).bind fun t139 => (if t139 > 10 then (some false) else (spec_GoodNodes.l0 k x0 x10 x11 (wrap64 (x12 + 1))))) else (some false)) else (some false)))
def spec_GoodNodes.j4 : Nat → List (S40) → Int → List (S40) → Int → Int → Bool → ByteArray → Int → List (S76) → ByteArray → Option (Bool)
 | 0, _, _, _, _, _, _, _, _, _, _ => none
 | k + 1, x0, x3, x10, x11, x12, x100, x133000, x133001, x133002, x133003 => if x100 = true then (some false) else (if 0 ≤ (wrap64 (x3 - 1)) then (if (wrap64 (x3 - 1)) < (x0.length : Int) then (if ((rd_T40 x0 (wrap64 (x3 - 1))).f0).toList = ([] : List UInt8) then (if ((rd_T40 x0 (wrap64 (x3 - 1))).f1) = x133001 then (some false) else (spec_GoodNodes.l0 k x0 x10 x11 (wrap64 (x12 + 1)))) else (spec_GoodNodes.l0 k x0 x10 x11 (wrap64 (x12 + 1)))) else (none)) else (none))
def spec_GoodNodes.l1 : Nat → List (S40) → Int → Int → List (S40) → Int → Int → ByteArray → Int → List (S76) → ByteArray → Option (Bool)
 | 0, _, _, _, _, _, _, _, _, _, _ => none
 | k + 1, x0, x3, x5, x10, x11, x12, x133000, x133001, x133002, x133003 => if x5 ≥ 0 then (if x5 = x133001 then (if x5 < 0 then (some false) else (if 0 ≤ x5 then (if x5 < (x0.length : Int) then (if ((rd_T40 x0 x5).f0).toList = ([] : List UInt8) then (some false) else (spec_GoodNodes.j3 k x0 x3 x10 x11 x12 x133000 x133001 x133002 x133003)) else (none)) else (none))) else (if 0 ≤ x5 then (if x5 < (x0.length : Int) then (spec_GoodNodes.l1 k x0 x3 ((rd_T40 x0 x5).f1) x10 x11 x12 x133000 x133001 x133002 x133003) else (none)) else (none))) else (if x5 < 0 then (some false) else (if 0 ≤ x5 then (if x5 < (x0.length : Int) then (if ((rd_T40 x0 x5).f0).toList = ([] : List UInt8) then (some false) else (spec_GoodNodes.j3 k x0 x3 x10 x11 x12 x133000 x133001 x133002 x133003)) else (none)) else (none)))
end
def spec_GoodNodes.f (k : Nat) (l0 : List (S40)) : Option (Bool) := (spec_l1In.f (l0.length : Int) 1 60).bind fun t130 => (if t130 = true then (spec_GoodNodes.l0 k l0 l0 (l0.length : Int) 0) else (some false))
theorem spec_GoodNodes.calls (k : Nat) (A0 : Option Addr) (c0 : Nat) (l0 : List (S40)) (r : Bool) (w : World) (hr0 : Kd.C k40 w A0 l0.length l0) (hc0 : l0.length ≤ c0) (h : spec_GoodNodes.f k l0 = some r) :
  Calls Tryz.prog 14 #[.slice A0 l0.length c0] w fun e w' => e = .returned (.bool r) ∧ Below w.heap.size w w' := by
 have hu40 := Tryz.underlying40; have HR0 := ak_ hr0; have HC0 := ak_ hc0; clear hr0 hc0; have HB := ak_ (Below.refl w.heap.size w); have H := h; unfold spec_GoodNodes.f at H
 clear h; replace H := bnd_ H; obtain ⟨t130, A2, H⟩ := H; replace H := itb_ H; rcases H with ⟨rfl, H⟩ | ⟨rfl, H⟩
 ·have H' := ak_ H; clear H; go_enter Tryz.func14, Tryz.ntmps14
  go_wp2_with (first | (go_at_call 29; (with_reducible refine (spec_l1In.calls (l0.length : Int) 1 60 true _ A2.out).mono ?_); rintro e w' ⟨rfl, ⟨nd, rfl⟩⟩; (try exact dd_)))
  repeat (go_quiet (fail); try go_wp2)
  go_loopg [12] k (fun kq v12 w' => ∃ (x12_1 : Int), v12 = .int .i64 x12_1 ∧ Aside0 (spec_GoodNodes.l0 kq l0 l0 (l0.length : Int) x12_1 = some r) ∧ Aside0 (kq ≤ k) ∧ Aside0 (Below w.heap.size w w'))
  case atStart => exact ⟨(0), sv_, H', ⟨Nat.le_refl _⟩, ⟨bel_⟩⟩
  case round =>
   clear H'; obtain ⟨x12_1, rfl, HA, HK1, HB⟩ := hrel; cases gk with
   | zero => exact absurd HA.out (by simp [spec_GoodNodes.l0])
   | succ k1 =>
    have H := HA.out; clear HA; simp only [spec_GoodNodes.l0] at H
    replace H := ied_ H; rcases H with ⟨c4b0, H⟩ | ⟨c4b0, H⟩
    ·replace H := itd_ H; obtain ⟨c5b0, H⟩ := H; replace H := itd_ H; obtain ⟨c6b0, H⟩ := H; have HC7 := ak_ H; clear H; have p131 : (0 ≤ (x12_1 : Int)) = True := odt_
     have q131 : (x12_1 < (l0.length : Int)) = True := odt_
     obtain ⟨ad131, A131_2, c131_2, e131, hx131_0, hx131_1, hx131_2, hx131_3, hl131_2, hi131_2⟩ := at_T40 HR0.out x12_1 oda_ oda_; cases e131; replace hx131_0 := pb_ HB hx131_0; replace hx131_1 := pb_ HB hx131_1; replace hx131_2 := pb_ HB hx131_2; replace hx131_3 := pb_ HB hx131_3; have HR131_2 := ak_ hi131_2; have HC131_2 := ak_ hl131_2; clear hi131_2 hl131_2; go_upto_region 6 with (first | ((with_reducible refine gate_dst (N := 4) rfl ?_); (try (refine gate_guard (by rfl) ?_; dsimp only)); refine bx_ (N := 4) (cs := #[.string (⟨#[]⟩ : ByteArray), .int .i64 0, .slice none 0 0, .string (⟨#[]⟩ : ByteArray)]) (t := 40) ?_; intro gb132 hg w8 hbox hb; have n_ := an4_ (below_step bel_ hb) (hbox) (gsl_ hg HB.out) (gsl_ hg HB.out); clear HB; obtain ⟨HB, BK132, GW132, GE132⟩ := n_; clear hb hbox hg; obtain ⟨z9_0, z9_1, z9_2, z9_3, y9_0, y9_1, y9_2, y9_3⟩ := bcz4 BK132.out))
     repeat (go_quiet (first | ((with_reducible refine gate_dst (N := 4) rfl ?_); (try (refine gate_guard (by rfl) ?_; dsimp only)); refine bx_ (N := 4) (cs := #[.string (⟨#[]⟩ : ByteArray), .int .i64 0, .slice none 0 0, .string (⟨#[]⟩ : ByteArray)]) (t := 40) ?_; intro gb132 hg w8 hbox hb; have n_ := an4_ (below_step bel_ hb) (hbox) (gsl_ hg HB.out) (gsl_ hg HB.out); clear HB; obtain ⟨HB, BK132, GW132, GE132⟩ := n_; clear hb hbox hg; obtain ⟨z9_0, z9_1, z9_2, z9_3, y9_0, y9_1, y9_2, y9_3⟩ := bcz4 BK132.out)); go_upto_region 6 with (first | ((with_reducible refine gate_dst (N := 4) rfl ?_); (try (refine gate_guard (by rfl) ?_; dsimp only)); refine bx_ (N := 4) (cs := #[.string (⟨#[]⟩ : ByteArray), .int .i64 0, .slice none 0 0, .string (⟨#[]⟩ : ByteArray)]) (t := 40) ?_; intro gb132 hg w8 hbox hb; have n_ := an4_ (below_step bel_ hb) (hbox) (gsl_ hg HB.out) (gsl_ hg HB.out); clear HB; obtain ⟨HB, BK132, GW132, GE132⟩ := n_; clear hb hbox hg; obtain ⟨z9_0, z9_1, z9_2, z9_3, y9_0, y9_1, y9_2, y9_3⟩ := bcz4 BK132.out)))
     (try simp only [Act.put, List.setIfInBounds_toArray, List.set_cons_zero, List.set_cons_succ])
     go_cut [36] (fun v36 wc => ∃ (kq : Nat) (x36_6 : Bool), v36 = .bool x36_6 ∧ Aside0 (spec_GoodNodes.j1 kq l0 x12_1 l0 (l0.length : Int) x12_1 x36_6 ((rd_T40 l0 x12_1).f0) ((rd_T40 l0 x12_1).f1) ((rd_T40 l0 x12_1).f2) ((rd_T40 l0 x12_1).f3) = some r) ∧ Aside0 (kq ≤ k1) ∧ Aside0 (wc.heap[gb132]? = some (.cells #[.string ((rd_T40 l0 x12_1).f0), .int .i64 ((rd_T40 l0 x12_1).f1), (.slice A131_2 ((rd_T40 l0 x12_1).f2).length c131_2), .string ((rd_T40 l0 x12_1).f3)] 40 (0, 0))) ∧ Aside0 (Below w.heap.size w wc))
     case first =>
      have H := HC7.out; clear HC7; replace H := bnd_ H; obtain ⟨t133, A10, H⟩ := H; replace H := itb_ H; rcases H with ⟨rfl, H⟩ | ⟨rfl, H⟩
      ·replace H := ite_ H; rcases H with ⟨c12, H⟩ | ⟨c12, H⟩
       ·have c12b0 : ((((rd_T40 l0 x12_1).f1) == (-1)) != (x12_1 == 0)) = true := c12
        (try (have c12b1 : decide ((((rd_T40 l0 x12_1).f1) == (-1)) = (x12_1 == 0)) = false := by simpa using c12))
        (try (have c12b2 : ((((rd_T40 l0 x12_1).f1) == (-1)) == (x12_1 == 0)) = false := by simpa using c12))
        (try (have c12b3 : ¬ ((((rd_T40 l0 x12_1).f1) == (-1)) = (x12_1 == 0)) := by simpa using c12))
        clear c12; (first | rw [c12b0] | (simp only [i64_w, i32_w]; rw [c12b0]) | skip)
        have H' := ak_ H; clear H; obtain ⟨z13_0, z13_1, z13_2, z13_3, y13_0, y13_1, y13_2, y13_3⟩ := bcz4 BK132.out; go_wp2_with (first | (go_at_call 29; (with_reducible refine (spec_l1In.calls ((rd_T40 l0 x12_1).f1) (-1) (wrap64 (x12_1 - 1)) true _ A10.out).mono ?_); rintro e w' ⟨rfl, ⟨nd, rfl⟩⟩; (try exact dd_)))
        repeat (go_quiet (fail); try go_wp2)
        go_meet
        case rel => exact ⟨_, (true), sv_, H', ⟨by have := HK1.out; first | omega | exact Nat.le_refl _⟩, ⟨bp_ BK132.out⟩, ⟨bes_⟩⟩
       ·have c12b0 : ((((rd_T40 l0 x12_1).f1) == (-1)) != (x12_1 == 0)) = false := by simpa using c12
        (try (have c12b1 : decide ((((rd_T40 l0 x12_1).f1) == (-1)) = (x12_1 == 0)) = true := by simpa using c12))
        (try (have c12b2 : ((((rd_T40 l0 x12_1).f1) == (-1)) == (x12_1 == 0)) = true := by simpa using c12))
        clear c12; (first | rw [c12b0] | (simp only [i64_w, i32_w]; rw [c12b0]) | skip)
        replace H := bnd_ H; obtain ⟨t134, A14, H⟩ := H; have H' := ak_ H; clear H; obtain ⟨z15_0, z15_1, z15_2, z15_3, y15_0, y15_1, y15_2, y15_3⟩ := bcz4 BK132.out; go_wp2_with (first | (go_at_call 29; (with_reducible refine (spec_l1In.calls ((rd_T40 l0 x12_1).f1) (-1) (wrap64 (x12_1 - 1)) true _ A10.out).mono ?_); rintro e w' ⟨rfl, ⟨nd, rfl⟩⟩; (try exact dd_)) | (go_at_call 30; (with_reducible refine (spec_l4Attrs.calls k1 _ _ ((rd_T40 l0 x12_1).f2) t134 _ ?side1 ?side2 A14.out).mono ?_); (case side1 => exact Kd.C_below HR131_2.out bes_); (case side2 => exact HC131_2.out); rintro e w16 ⟨rfl, hb⟩; have n_ := an2_ (blk_below (g := gb132) (o := .cells #[.string ((rd_T40 l0 x12_1).f0), .int .i64 ((rd_T40 l0 x12_1).f1), .slice A131_2 ((rd_T40 l0 x12_1).f2).length c131_2, .string ((rd_T40 l0 x12_1).f3)] 40 (0, 0)) (bp_ BK132.out) hb) (below_step bes_ hb); clear BK132 HB; obtain ⟨BK132, HB⟩ := n_; (try clear hb);(try clear hb2);(try clear hk);(try clear hi)))
        repeat (go_quiet (fail); try go_wp2)
        go_meet
        case rel => exact ⟨_, (!t134), sv_, H', ⟨by have := HK1.out; first | omega | exact Nat.le_refl _⟩, ⟨bp_ BK132.out⟩, ⟨bes_⟩⟩
      ·have H' := ak_ H; clear H; obtain ⟨z17_0, z17_1, z17_2, z17_3, y17_0, y17_1, y17_2, y17_3⟩ := bcz4 BK132.out; go_wp2_with (first | (go_at_call 29; (with_reducible refine (spec_l1In.calls ((rd_T40 l0 x12_1).f1) (-1) (wrap64 (x12_1 - 1)) false _ A10.out).mono ?_); rintro e w' ⟨rfl, ⟨nd, rfl⟩⟩; (try exact dd_)))
       repeat (go_quiet (fail); try go_wp2)
       go_meet
       case rel => exact ⟨_, (true), sv_, H', ⟨by have := HK1.out; first | omega | exact Nat.le_refl _⟩, ⟨bp_ BK132.out⟩, ⟨bes_⟩⟩
     case rest =>
      clear HC7; (try clear c4b0);(try clear c5b0);(try clear c6b0);(try clear z9_0);(try clear z9_1);(try clear z9_2);(try clear z9_3)
      (try clear y9_0);(try clear y9_1);(try clear y9_2);(try clear y9_3);(try clear hx131_0);(try clear hx131_1);(try clear hx131_2);(try clear hx131_3);(try clear p131);(try clear q131)
      obtain ⟨kq, x36_6, rfl, HA, HJ6, BK132, HB⟩ := hcut; cases kq with
      | zero => exact absurd HA.out (by simp [spec_GoodNodes.j1])
      | succ kj6 =>
       have H := HA.out; clear HA; simp only [spec_GoodNodes.j1] at H
       replace H := itb_ H; rcases H with ⟨rfl, H⟩ | ⟨rfl, H⟩
       ·obtain rfl := Option.some.inj H
        go_wp2; repeat (go_quiet (fail); try go_wp2)
        go_ret
        exact ⟨er_, bes_⟩
       ·have HC19 := ak_ H; clear H; go_upto_if 38 with (fail)
        repeat (go_quiet (fail); go_upto_if 38 with (fail))
        go_cut [] (fun wc => ∃ (kq : Nat), Aside0 (spec_GoodNodes.j3 kq l0 x12_1 l0 (l0.length : Int) x12_1 ((rd_T40 l0 x12_1).f0) ((rd_T40 l0 x12_1).f1) ((rd_T40 l0 x12_1).f2) ((rd_T40 l0 x12_1).f3) = some r) ∧ Aside0 (kq ≤ kj6) ∧ Aside0 (wc.heap[gb132]? = some (.cells #[.string ((rd_T40 l0 x12_1).f0), .int .i64 ((rd_T40 l0 x12_1).f1), (.slice A131_2 ((rd_T40 l0 x12_1).f2).length c131_2), .string ((rd_T40 l0 x12_1).f3)] 40 (0, 0))) ∧ Aside0 (Below w.heap.size w wc))
        case first =>
         have H := HC19.out; clear HC19; replace H := ied_ H; rcases H with ⟨c20b0, H⟩ | ⟨c20b0, H⟩
         ·(first | rw [c20b0] | (simp only [i64_w, i32_w]; rw [c20b0]) | skip)
          have H' := ak_ H; clear H; go_wp2; repeat (go_quiet (fail); try go_wp2)
          go_loopg [5] kj6 (fun kq v5 w' => ∃ (x5_3 : Int), v5 = .int .i64 x5_3 ∧ Aside0 (spec_GoodNodes.l1 kq l0 x12_1 x5_3 l0 (l0.length : Int) x12_1 ((rd_T40 l0 x12_1).f0) ((rd_T40 l0 x12_1).f1) ((rd_T40 l0 x12_1).f2) ((rd_T40 l0 x12_1).f3) = some r) ∧ Aside0 (kq ≤ kj6) ∧ Aside0 (w'.heap[gb132]? = some (.cells #[.string ((rd_T40 l0 x12_1).f0), .int .i64 ((rd_T40 l0 x12_1).f1), (.slice A131_2 ((rd_T40 l0 x12_1).f2).length c131_2), .string ((rd_T40 l0 x12_1).f3)] 40 (0, 0))) ∧ Aside0 (Below w.heap.size w w'))
          case atStart => exact ⟨(wrap64 (x12_1 - 1)), sv_, H', ⟨Nat.le_refl _⟩, ⟨bp_ BK132.out⟩, ⟨bes_⟩⟩
          case round =>
           clear H'; (try clear c4b0);(try clear c5b0);(try clear c6b0);(try clear c20b0);(try clear z9_0);(try clear z9_1);(try clear z9_2);(try clear z9_3)
           (try clear y9_0);(try clear y9_1);(try clear y9_2);(try clear y9_3);(try clear hx131_0);(try clear hx131_1);(try clear hx131_2);(try clear hx131_3);(try clear p131);(try clear q131)
           obtain ⟨x5_3, rfl, HA, HK3, BK132, HB⟩ := hrel; cases gk with
           | zero => exact absurd HA.out (by simp [spec_GoodNodes.l1])
           | succ k3 =>
            have H := HA.out; clear HA; simp only [spec_GoodNodes.l1] at H
            replace H := ied_ H; rcases H with ⟨c21b0, H⟩ | ⟨c21b0, H⟩
            ·replace H := ite_ H; rcases H with ⟨c22, H⟩ | ⟨c22, H⟩
             ·have c22b0 := beq_iff_eq.mpr c22; have c22b1 := bne_eq_false_iff_eq.mpr c22; clear c22; replace H := ied_ H; rcases H with ⟨c23b0, H⟩ | ⟨c23b0, H⟩
              ·obtain rfl := Option.some.inj H
               obtain ⟨z24_0, z24_1, z24_2, z24_3, y24_0, y24_1, y24_2, y24_3⟩ := bcz4 BK132.out; go_wp2; repeat (go_quiet (fail); try go_wp2)
               go_ret
               exact ⟨er_, bes_⟩
              ·replace H := itd_ H; obtain ⟨c25b0, H⟩ := H; replace H := itd_ H; obtain ⟨c26b0, H⟩ := H; replace H := ite_ H; rcases H with ⟨c27, H⟩ | ⟨c27, H⟩
               ·obtain ⟨c27b0, c27b7, c27b8, c27b1⟩ := emp1_ c27; clear c27; obtain rfl := Option.some.inj H
                obtain ⟨z28_0, z28_1, z28_2, z28_3, y28_0, y28_1, y28_2, y28_3⟩ := bcz4 BK132.out; have p135 : (0 ≤ (x5_3 : Int)) = True := odt_
                have q135 : (x5_3 < (l0.length : Int)) = True := odt_
                obtain ⟨ad135, A135_2, c135_2, e135, hx135_0, hx135_1, hx135_2, hx135_3, hl135_2, hi135_2⟩ := at_T40 HR0.out x5_3 oda_ oda_; obtain rfl : ad131 = ad135 := (by injection e135)
                replace hx135_0 := pb_ HB hx135_0; replace hx135_1 := pb_ HB hx135_1; replace hx135_2 := pb_ HB hx135_2; replace hx135_3 := pb_ HB hx135_3; have HR135_2 := ak_ hi135_2; have HC135_2 := ak_ hl135_2; clear hi135_2 hl135_2; go_wp2; repeat (go_quiet (fail); try go_wp2)
                go_ret
                exact ⟨er_, bes_⟩
               ·obtain ⟨c27b0, c27b7, c27b8, c27b1⟩ := emp0_ c27; have H' := ak_ H; clear H; obtain ⟨z29_0, z29_1, z29_2, z29_3, y29_0, y29_1, y29_2, y29_3⟩ := bcz4 BK132.out; have p135 : (0 ≤ (x5_3 : Int)) = True := odt_
                have q135 : (x5_3 < (l0.length : Int)) = True := odt_
                obtain ⟨ad135, A135_2, c135_2, e135, hx135_0, hx135_1, hx135_2, hx135_3, hl135_2, hi135_2⟩ := at_T40 HR0.out x5_3 oda_ oda_; obtain rfl : ad131 = ad135 := (by injection e135)
                replace hx135_0 := pb_ HB hx135_0; replace hx135_1 := pb_ HB hx135_1; replace hx135_2 := pb_ HB hx135_2; replace hx135_3 := pb_ HB hx135_3; have HR135_2 := ak_ hi135_2; have HC135_2 := ak_ hl135_2; clear hi135_2 hl135_2; go_wp2; repeat (go_quiet (fail); try go_wp2)
                go_meet
                case rel => exact ⟨_, H', ⟨by have := HK1.out; have := HJ6.out; have := HK3.out; first | omega | exact Nat.le_refl _⟩, ⟨bp_ BK132.out⟩, ⟨bes_⟩⟩
             ·have c22b0 := beq_eq_false_iff_ne.mpr c22; have c22b1 := bne_iff_ne.mpr c22; replace H := itd_ H; obtain ⟨c30b0, H⟩ := H; replace H := itd_ H; obtain ⟨c31b0, H⟩ := H; have H' := ak_ H; clear H; obtain ⟨z32_0, z32_1, z32_2, z32_3, y32_0, y32_1, y32_2, y32_3⟩ := bcz4 BK132.out; have p136 : (0 ≤ (x5_3 : Int)) = True := odt_
              have q136 : (x5_3 < (l0.length : Int)) = True := odt_
              obtain ⟨ad136, A136_2, c136_2, e136, hx136_0, hx136_1, hx136_2, hx136_3, hl136_2, hi136_2⟩ := at_T40 HR0.out x5_3 oda_ oda_; obtain rfl : ad131 = ad136 := (by injection e136)
              replace hx136_0 := pb_ HB hx136_0; replace hx136_1 := pb_ HB hx136_1; replace hx136_2 := pb_ HB hx136_2; replace hx136_3 := pb_ HB hx136_3; have HR136_2 := ak_ hi136_2; have HC136_2 := ak_ hl136_2; clear hi136_2 hl136_2; go_wp2; repeat (go_quiet (fail); try go_wp2)
              go_roundg k3
              case measure => have := HK1.out; have := HJ6.out; have := HK3.out; omega
              case rel => exact ⟨((rd_T40 l0 x5_3).f1), sv_, H', ⟨by have := HK1.out; have := HJ6.out; have := HK3.out; omega⟩, ⟨bp_ BK132.out⟩, ⟨bes_⟩⟩
            ·replace H := ied_ H; rcases H with ⟨c33b0, H⟩ | ⟨c33b0, H⟩
             ·obtain rfl := Option.some.inj H
              go_wp2; repeat (go_quiet (fail); try go_wp2)
              go_ret
              exact ⟨er_, bes_⟩
             ·replace H := itn_ H; obtain ⟨c34, H⟩ := H; have c34b0 := decide_eq_true c34; exact absurd c34b0 (by rw [c21b0]; decide)
         ·(first | rw [c20b0] | (simp only [i64_w, i32_w]; rw [c20b0]) | skip)
          have H' := ak_ H; clear H; go_wp2; repeat (go_quiet (fail); try go_wp2)
          go_meet
          case rel => exact ⟨_, H', ⟨by have := HK1.out; have := HJ6.out; first | omega | exact Nat.le_refl _⟩, ⟨bp_ BK132.out⟩, ⟨bes_⟩⟩
        case rest =>
         clear HC19; (try clear c4b0);(try clear c5b0);(try clear c6b0)
         (try clear z9_0);(try clear z9_1);(try clear z9_2);(try clear z9_3)
         (try clear y9_0);(try clear y9_1);(try clear y9_2);(try clear y9_3);(try clear hx131_0);(try clear hx131_1);(try clear hx131_2);(try clear hx131_3);(try clear p131);(try clear q131)
         obtain ⟨kq, HA, HJ18, BK132, HB⟩ := hcut; cases kq with
         | zero => exact absurd HA.out (by simp [spec_GoodNodes.j3])
         | succ kj18 =>
          have H := HA.out; clear HA; simp only [spec_GoodNodes.j3] at H
          replace H := ite_ H; rcases H with ⟨c37, H⟩ | ⟨c37, H⟩
          ·obtain ⟨c37b0, c37b7, c37b8, c37b1⟩ := emp1_ c37; clear c37; have HC38 := ak_ H; clear H; obtain ⟨z39_0, z39_1, z39_2, z39_3, y39_0, y39_1, y39_2, y39_3⟩ := bcz4 BK132.out; go_upto_region 17 with (fail)
           repeat (go_quiet (fail); go_upto_region 17 with (fail))
           go_cut [100] (fun v100 wc => ∃ (kq : Nat) (x100_37 : Bool), v100 = .bool x100_37 ∧ Aside0 (spec_GoodNodes.j4 kq l0 x12_1 l0 (l0.length : Int) x12_1 x100_37 ((rd_T40 l0 x12_1).f0) ((rd_T40 l0 x12_1).f1) ((rd_T40 l0 x12_1).f2) ((rd_T40 l0 x12_1).f3) = some r) ∧ Aside0 (kq ≤ kj18) ∧ Aside0 (wc.heap[gb132]? = some (.cells #[.string ((rd_T40 l0 x12_1).f0), .int .i64 ((rd_T40 l0 x12_1).f1), (.slice A131_2 ((rd_T40 l0 x12_1).f2).length c131_2), .string ((rd_T40 l0 x12_1).f3)] 40 (0, 0))) ∧ Aside0 (Below w.heap.size w wc))
           case first =>
            have H := HC38.out; clear HC38; replace H := ite_ H; rcases H with ⟨c40, H⟩ | ⟨c40, H⟩
            ·have c40b0 := beq_iff_eq.mpr c40; have c40b1 := bne_eq_false_iff_eq.mpr c40; clear c40; (first | rw [c40b0] | (simp only [i64_w, i32_w]; rw [c40b0]) | skip)
             have H' := ak_ H; clear H; go_wp2; repeat (go_quiet (fail); try go_wp2)
             go_meet
             case rel => exact ⟨_, (true), sv_, H', ⟨by have := HK1.out; have := HJ6.out; have := HJ18.out; first | omega | exact Nat.le_refl _⟩, ⟨bp_ BK132.out⟩, ⟨bes_⟩⟩
            ·have c40b0 := beq_eq_false_iff_ne.mpr c40; have c40b1 := bne_iff_ne.mpr c40; (first | rw [c40b0] | (simp only [i64_w, i32_w]; rw [c40b0]) | skip)
             replace H := ite_ H; rcases H with ⟨c41, H⟩ | ⟨c41, H⟩
             ·have c41b0 := decide_eq_true c41; have c41b1 : decide (0 < ((rd_T40 l0 x12_1).f2).length) = true := decide_eq_true (by omega)
              clear c41; have H' := ak_ H; clear H; obtain ⟨z42_0, z42_1, z42_2, z42_3, y42_0, y42_1, y42_2, y42_3⟩ := bcz4 BK132.out; go_wp2; repeat (go_quiet (fail); try go_wp2)
              go_meet
              case rel => exact ⟨_, (true), sv_, H', ⟨by have := HK1.out; have := HJ6.out; have := HJ18.out; first | omega | exact Nat.le_refl _⟩, ⟨bp_ BK132.out⟩, ⟨bes_⟩⟩
             ·have c41b0 := decide_eq_false c41; have c41b1 : decide (0 < ((rd_T40 l0 x12_1).f2).length) = false := decide_eq_false (by omega)
              clear c41; replace H := ite_ H; rcases H with ⟨c43, H⟩ | ⟨c43, H⟩
              ·obtain ⟨c43b0, c43b7, c43b8, c43b1⟩ := emp1_ c43; clear c43; have H' := ak_ H; clear H; obtain ⟨z44_0, z44_1, z44_2, z44_3, y44_0, y44_1, y44_2, y44_3⟩ := bcz4 BK132.out; go_wp2; repeat (go_quiet (fail); try go_wp2)
               go_meet
               case rel => exact ⟨_, (true), sv_, H', ⟨by have := HK1.out; have := HJ6.out; have := HJ18.out; first | omega | exact Nat.le_refl _⟩, ⟨bp_ BK132.out⟩, ⟨bes_⟩⟩
              ·obtain ⟨c43b0, c43b7, c43b8, c43b1⟩ := emp0_ c43; replace H := bnd_ H; obtain ⟨t140, A45, H⟩ := H; have H' := ak_ H; clear H; obtain ⟨z46_0, z46_1, z46_2, z46_3, y46_0, y46_1, y46_2, y46_3⟩ := bcz4 BK132.out; go_wp2_with (first | (go_at_call 33; (with_reducible refine (spec_l4Bad.calls kj18 ((rd_T40 l0 x12_1).f3) t140 _ A45.out).mono ?_); rintro e w' ⟨rfl, ⟨nd, rfl⟩⟩; (try exact dd_)))
               repeat (go_quiet (fail); try go_wp2)
               go_meet
               case rel => exact ⟨_, (decide (t140 ≥ 0)), sv_, H', ⟨by have := HK1.out; have := HJ6.out; have := HJ18.out; first | omega | exact Nat.le_refl _⟩, ⟨bp_ BK132.out⟩, ⟨bes_⟩⟩
           case rest =>
            clear HC38; (try clear c4b0);(try clear c5b0);(try clear c6b0)
            (try clear c37b0);(try clear c37b1);(try clear z39_0);(try clear z39_1);(try clear z39_2);(try clear z39_3)
            (try clear z9_0);(try clear z9_1);(try clear z9_2);(try clear z9_3);(try clear y39_0);(try clear y39_1);(try clear y39_2);(try clear y39_3)
            (try clear y9_0);(try clear y9_1);(try clear y9_2);(try clear y9_3);(try clear hx131_0);(try clear hx131_1);(try clear hx131_2);(try clear hx131_3);(try clear p131);(try clear q131)
            obtain ⟨kq, x100_37, rfl, HA, HJ37, BK132, HB⟩ := hcut; cases kq with
            | zero => exact absurd HA.out (by simp [spec_GoodNodes.j4])
            | succ kj37 =>
             have H := HA.out; clear HA; simp only [spec_GoodNodes.j4] at H
             replace H := itb_ H; rcases H with ⟨rfl, H⟩ | ⟨rfl, H⟩
             ·obtain rfl := Option.some.inj H
              go_wp2; repeat (go_quiet (fail); try go_wp2)
              go_ret
              exact ⟨er_, bes_⟩
             ·obtain ⟨ji48, hji48⟩ : ∃ j_ : Int, (wrap64 (x12_1 - 1)) = j_ := ⟨_, rfl⟩
              replace H : (if 0 ≤ (ji48) then (if (ji48) < (l0.length : Int) then (if ((rd_T40 l0 (ji48)).f0).toList = ([] : List UInt8) then (if ((rd_T40 l0 (ji48)).f1) = ((rd_T40 l0 x12_1).f1) then (some false) else (spec_GoodNodes.l0 kj37 l0 l0 (l0.length : Int) (wrap64 (x12_1 + 1)))) else (spec_GoodNodes.l0 kj37 l0 l0 (l0.length : Int) (wrap64 (x12_1 + 1)))) else (none)) else (none)) = some r := by first | (rw [hji48] at H; exact H) | (simp only [hji48] at H ⊢; exact H)
              have hji48w : (IntKind.i64.wrap (x12_1 - 1)) = ji48 := (i64_w _).trans hji48
              replace H := itd_ H; obtain ⟨c49b0, H⟩ := H; replace H := itd_ H; obtain ⟨c50b0, H⟩ := H; replace H := ite_ H; rcases H with ⟨c51, H⟩ | ⟨c51, H⟩
              ·obtain ⟨c51b0, c51b7, c51b8, c51b1⟩ := emp1_ c51; clear c51; replace H := ite_ H; rcases H with ⟨c52, H⟩ | ⟨c52, H⟩
               ·have c52b0 := beq_iff_eq.mpr c52; have c52b1 := bne_eq_false_iff_eq.mpr c52; clear c52; obtain rfl := Option.some.inj H
                have p141 : (0 ≤ ((ji48) : Int)) = True := odt_
                have q141 : ((ji48) < (l0.length : Int)) = True := odt_
                obtain ⟨ad141, A141_2, c141_2, e141, hx141_0, hx141_1, hx141_2, hx141_3, hl141_2, hi141_2⟩ := at_T40 HR0.out (ji48) oda_ oda_; obtain rfl : ad131 = ad141 := (by injection e141)
                replace hx141_0 := pb_ HB hx141_0; replace hx141_1 := pb_ HB hx141_1; replace hx141_2 := pb_ HB hx141_2; replace hx141_3 := pb_ HB hx141_3; have HR141_2 := ak_ hi141_2; have HC141_2 := ak_ hl141_2; clear hi141_2 hl141_2; have p142 : (0 ≤ ((ji48) : Int)) = True := odt_
                have q142 : ((ji48) < (l0.length : Int)) = True := odt_
                obtain ⟨ad142, A142_2, c142_2, e142, hx142_0, hx142_1, hx142_2, hx142_3, hl142_2, hi142_2⟩ := at_T40 HR0.out (ji48) oda_ oda_; obtain rfl : ad131 = ad142 := (by injection e142)
                (try (have e9_ := hx142_2.symm.trans hw141_2; simp only [Option.some.injEq, Value.slice.injEq, true_and, and_true] at e9_; obtain ⟨rfl, rfl⟩ := e9_))
                replace hx142_0 := pb_ HB hx142_0; replace hx142_1 := pb_ HB hx142_1; replace hx142_2 := pb_ HB hx142_2; replace hx142_3 := pb_ HB hx142_3; have HR142_2 := ak_ hi142_2; have HC142_2 := ak_ hl142_2; clear hi142_2 hl142_2; have ea_ := Option.some.inj (hx141_2.symm.trans hx142_2); injection ea_ with ea_ en_ ec_
                subst ea_; subst ec_; clear en_; obtain ⟨z53_0, z53_1, z53_2, z53_3, y53_0, y53_1, y53_2, y53_3⟩ := bcz4 BK132.out; go_wp2; repeat (go_quiet (fail); try go_wp2)
                go_ret
                exact ⟨by first | rfl | (simp [errW_none, errW_some] <;> rfl) | (simp only [← hji48]; first | rfl | (simp [errW_none, errW_some] <;> rfl)) | (simp [*, errW_none, errW_some] <;> rfl), bes_⟩
               ·have c52b0 := beq_eq_false_iff_ne.mpr c52; have c52b1 := bne_iff_ne.mpr c52; have H' := ak_ H; clear H; have p141 : (0 ≤ ((ji48) : Int)) = True := odt_
                have q141 : ((ji48) < (l0.length : Int)) = True := odt_
                obtain ⟨ad141, A141_2, c141_2, e141, hx141_0, hx141_1, hx141_2, hx141_3, hl141_2, hi141_2⟩ := at_T40 HR0.out (ji48) oda_ oda_; obtain rfl : ad131 = ad141 := (by injection e141)
                replace hx141_0 := pb_ HB hx141_0; replace hx141_1 := pb_ HB hx141_1; replace hx141_2 := pb_ HB hx141_2; replace hx141_3 := pb_ HB hx141_3; have HR141_2 := ak_ hi141_2; have HC141_2 := ak_ hl141_2; clear hi141_2 hl141_2; have p142 : (0 ≤ ((ji48) : Int)) = True := odt_
                have q142 : ((ji48) < (l0.length : Int)) = True := odt_
                obtain ⟨ad142, A142_2, c142_2, e142, hx142_0, hx142_1, hx142_2, hx142_3, hl142_2, hi142_2⟩ := at_T40 HR0.out (ji48) oda_ oda_; obtain rfl : ad131 = ad142 := (by injection e142)
                (try (have e9_ := hx142_2.symm.trans hw141_2; simp only [Option.some.injEq, Value.slice.injEq, true_and, and_true] at e9_; obtain ⟨rfl, rfl⟩ := e9_))
                replace hx142_0 := pb_ HB hx142_0; replace hx142_1 := pb_ HB hx142_1; replace hx142_2 := pb_ HB hx142_2; replace hx142_3 := pb_ HB hx142_3; have HR142_2 := ak_ hi142_2; have HC142_2 := ak_ hl142_2; clear hi142_2 hl142_2; have ea_ := Option.some.inj (hx141_2.symm.trans hx142_2); injection ea_ with ea_ en_ ec_
                subst ea_; subst ec_; clear en_; obtain ⟨z54_0, z54_1, z54_2, z54_3, y54_0, y54_1, y54_2, y54_3⟩ := bcz4 BK132.out; go_wp2; repeat (go_quiet (fail); try go_wp2)
                go_roundg kj37
                case measure => have := HK1.out; have := HJ6.out; have := HJ18.out; have := HJ37.out; omega
                case rel => exact ⟨(wrap64 (x12_1 + 1)), sv_, H', ⟨by have := HK1.out; have := HJ6.out; have := HJ18.out; have := HJ37.out; omega⟩, ⟨bes_⟩⟩
              ·obtain ⟨c51b0, c51b7, c51b8, c51b1⟩ := emp0_ c51; have H' := ak_ H; clear H; have p141 : (0 ≤ ((ji48) : Int)) = True := odt_
               have q141 : ((ji48) < (l0.length : Int)) = True := odt_
               obtain ⟨ad141, A141_2, c141_2, e141, hx141_0, hx141_1, hx141_2, hx141_3, hl141_2, hi141_2⟩ := at_T40 HR0.out (ji48) oda_ oda_; obtain rfl : ad131 = ad141 := (by injection e141)
               replace hx141_0 := pb_ HB hx141_0; replace hx141_1 := pb_ HB hx141_1; replace hx141_2 := pb_ HB hx141_2; replace hx141_3 := pb_ HB hx141_3; have HR141_2 := ak_ hi141_2; have HC141_2 := ak_ hl141_2; clear hi141_2 hl141_2; go_wp2; repeat (go_quiet (fail); try go_wp2)
               go_roundg kj37
               case measure => have := HK1.out; have := HJ6.out; have := HJ18.out; have := HJ37.out; omega
               case rel => exact ⟨(wrap64 (x12_1 + 1)), sv_, H', ⟨by have := HK1.out; have := HJ6.out; have := HJ18.out; have := HJ37.out; omega⟩, ⟨bes_⟩⟩
          ·obtain ⟨c37b0, c37b7, c37b8, c37b1⟩ := emp0_ c37; replace H := bnd_ H; obtain ⟨t138, A55, H⟩ := H; replace H := itb_ H; rcases H with ⟨rfl, H⟩ | ⟨rfl, H⟩
           ·replace H := ite_ H; rcases H with ⟨c57, H⟩ | ⟨c57, H⟩
            ·obtain ⟨c57b0, c57b7, c57b8, c57b1⟩ := emp1_ c57; clear c57; replace H := bnd_ H; obtain ⟨t139, A58, H⟩ := H; replace H := ied_ H; rcases H with ⟨c59b0, H⟩ | ⟨c59b0, H⟩
             ·obtain rfl := Option.some.inj H
              obtain ⟨z60_0, z60_1, z60_2, z60_3, y60_0, y60_1, y60_2, y60_3⟩ := bcz4 BK132.out; go_wp2_with (first | (go_at_call 31; (with_reducible refine (spec_l4Name.calls kj18 ((rd_T40 l0 x12_1).f0) true _ A55.out).mono ?_); rintro e w' ⟨rfl, ⟨nd, rfl⟩⟩; (try exact dd_)) | (go_at_call 32; (with_reducible refine (spec_l4Deep.calls kj18 _ _ l0 x12_1 t139 _ ?side1 ?side2 A58.out).mono ?_); (case side1 => repeat (first | exact (Kd.C_below HR0.out bes_) | (with_reducible refine Kd.C_alloc ?_ _) | (with_reducible refine Kd.C_drewN ?_ _) | (with_reducible refine Kd.C_drew ?_))); (case side2 => exact HC0.out); rintro e w' ⟨rfl, ⟨nd, rfl⟩⟩; (try exact dd_)))
              repeat (go_quiet (fail); try go_wp2)
              go_ret
              exact ⟨er_, bes_⟩
             ·have H' := ak_ H; clear H; obtain ⟨z61_0, z61_1, z61_2, z61_3, y61_0, y61_1, y61_2, y61_3⟩ := bcz4 BK132.out; go_wp2_with (first | (go_at_call 31; (with_reducible refine (spec_l4Name.calls kj18 ((rd_T40 l0 x12_1).f0) true _ A55.out).mono ?_); rintro e w' ⟨rfl, ⟨nd, rfl⟩⟩; (try exact dd_)) | (go_at_call 32; (with_reducible refine (spec_l4Deep.calls kj18 _ _ l0 x12_1 t139 _ ?side1 ?side2 A58.out).mono ?_); (case side1 => repeat (first | exact (Kd.C_below HR0.out bes_) | (with_reducible refine Kd.C_alloc ?_ _) | (with_reducible refine Kd.C_drewN ?_ _) | (with_reducible refine Kd.C_drew ?_))); (case side2 => exact HC0.out); rintro e w' ⟨rfl, ⟨nd, rfl⟩⟩; (try exact dd_)))
              repeat (go_quiet (fail); try go_wp2)
              go_roundg kj18
              case measure => have := HK1.out; have := HJ6.out; have := HJ18.out; omega
              case rel => exact ⟨(wrap64 (x12_1 + 1)), sv_, H', ⟨by have := HK1.out; have := HJ6.out; have := HJ18.out; omega⟩, ⟨bes_⟩⟩
            ·obtain ⟨c57b0, c57b7, c57b8, c57b1⟩ := emp0_ c57; obtain rfl := Option.some.inj H
             obtain ⟨z62_0, z62_1, z62_2, z62_3, y62_0, y62_1, y62_2, y62_3⟩ := bcz4 BK132.out; go_wp2_with (first | (go_at_call 31; (with_reducible refine (spec_l4Name.calls kj18 ((rd_T40 l0 x12_1).f0) true _ A55.out).mono ?_); rintro e w' ⟨rfl, ⟨nd, rfl⟩⟩; (try exact dd_)))
             repeat (go_quiet (fail); try go_wp2)
             go_ret
             exact ⟨er_, bes_⟩
           ·obtain rfl := Option.some.inj H
            obtain ⟨z63_0, z63_1, z63_2, z63_3, y63_0, y63_1, y63_2, y63_3⟩ := bcz4 BK132.out; go_wp2_with (first | (go_at_call 31; (with_reducible refine (spec_l4Name.calls kj18 ((rd_T40 l0 x12_1).f0) false _ A55.out).mono ?_); rintro e w' ⟨rfl, ⟨nd, rfl⟩⟩; (try exact dd_)))
            repeat (go_quiet (fail); try go_wp2)
            go_ret
            exact ⟨er_, bes_⟩
    ·obtain rfl := Option.some.inj H
     go_wp2; repeat (go_quiet (fail); try go_wp2)
     go_ret
     exact ⟨er_, bel_⟩
 ·obtain rfl := Option.some.inj H
  go_enter Tryz.func14, Tryz.ntmps14
  go_wp2_with (first | (go_at_call 29; (with_reducible refine (spec_l1In.calls (l0.length : Int) 1 60 false _ A2.out).mono ?_); rintro e w' ⟨rfl, ⟨nd, rfl⟩⟩; (try exact dd_)))
  repeat (go_quiet (fail); try go_wp2)
  go_ret
  exact ⟨er_, bel_⟩

/-! ### spec_l5Bare: function 71 -/
mutual
def spec_l5Bare.l0 : Nat → ByteArray → ByteArray → Int → Option (ByteArray)
 | 0, _, _, _ => none
 | k + 1, x0, x3, x4 => if x4 < (x0.size : Int) then (if 0 ≤ x4 then (if (bt x0 x4) = 47 then (if (wrap64 (x4 + 1)) ≥ (x0.size : Int) then (spec_l5Bare.j1 k x0 x3 x4 true) else (if 0 ≤ (wrap64 (x4 + 1)) then (if (wrap64 (x4 + 1)) < (x0.size : Int) then (spec_l5Bare.j1 k x0 x3 x4 ((bt x0 (wrap64 (x4 + 1))) != 42)) else (none)) else (none))) else (spec_l5Bare.j1 k x0 x3 x4 true)) else (none)) else (some x3)
def spec_l5Bare.j1 : Nat → ByteArray → ByteArray → Int → Bool → Option (ByteArray)
 | 0, _, _, _, _ => none
 | k + 1, x0, x3, x4, x29 => if x29 = true then (if 0 ≤ x4 then (if x4 ≤ (wrap64 (x4 + 1)) then (if (wrap64 (x4 + 1)) ≤ (x0.size : Int) then (if x3.size + (x0.extract (x4 : Int).toNat ((wrap64 (x4 + 1)) : Int).toNat).size ≤ 9223372036854775807 then (spec_l5Bare.l0 k x0 (x3 ++ (x0.extract (x4 : Int).toNat ((wrap64 (x4 + 1)) : Int).toNat)) (wrap64 (x4 + 1))) else (none)) else (none)) else (none)) else (none)) else (spec_l5Bare.l1 k x0 x3 (wrap64 (x4 + 2)))
def spec_l5Bare.l1 : Nat → ByteArray → ByteArray → Int → Option (ByteArray)
 | 0, _, _, _ => none
 | k + 1, x0, x3, x5 => if x5 < (x0.size : Int) then (if 0 ≤ x5 then (if (bt x0 x5) = 42 then (if (wrap64 (x5 + 1)) < (x0.size : Int) then (if 0 ≤ (wrap64 (x5 + 1)) then (if ((bt x0 (wrap64 (x5 + 1))) = 47) then (if x3.size + 1 ≤ 9223372036854775807 then (spec_l5Bare.l0 k x0 (x3 ++ (⟨#[32]⟩ : ByteArray)) (wrap64 ((wrap64 (x5 + 1)) + 1))) else (none)) else (spec_l5Bare.l1 k x0 x3 (wrap64 (x5 + 1)))) else (none)) else (spec_l5Bare.l1 k x0 x3 (wrap64 (x5 + 1)))) else (spec_l5Bare.l1 k x0 x3 (wrap64 (x5 + 1)))) else (none)) else (if x3.size + 1 ≤ 9223372036854775807 then (spec_l5Bare.l0 k x0 (x3 ++ (⟨#[32]⟩ : ByteArray)) (wrap64 ((wrap64 (x5 + 1)) + 1))) else (none))
end
def spec_l5Bare.f (k : Nat) (a0 : ByteArray) : Option (ByteArray) := spec_l5Bare.l0 k a0 (⟨#[]⟩ : ByteArray) 0
theorem spec_l5Bare.calls (k : Nat) (a0 : ByteArray) (r : ByteArray) (w : World) (h : spec_l5Bare.f k a0 = some r) :
  Calls Tryz.prog 71 #[.string a0] w fun e w' => e = .returned (.string r) ∧ Drawn0 w w' := by
 have H := h; unfold spec_l5Bare.f at H
 clear h; have H' := ak_ H; clear H; go_enter Tryz.func71, Tryz.ntmps71
 go_wp2; go_loopg [3, 4] k (fun kq v3 v4 w' => ∃ (x3_1 : ByteArray) (x4_1 : Int), v3 = .string x3_1 ∧ v4 = .int .i64 x4_1 ∧ Aside0 (spec_l5Bare.l0 kq a0 x3_1 x4_1 = some r) ∧ Aside0 (kq ≤ k) ∧ Drawn0 w w')
 case atStart => exact ⟨((⟨#[]⟩ : ByteArray)), (0), sv_, sv_, H', ⟨Nat.le_refl _⟩, by repeat (first | exact Drawn0.refl _ | apply Drawn0.step)⟩
 case round =>
  clear H'; obtain ⟨x3_1, x4_1, rfl, rfl, HA, HK1, ⟨m1, rfl⟩⟩ := hrel; cases gk with
  | zero => exact absurd HA.out (by simp [spec_l5Bare.l0])
  | succ k1 =>
   have H := HA.out; clear HA; simp only [spec_l5Bare.l0] at H
   replace H := ied_ H; rcases H with ⟨c2b0, H⟩ | ⟨c2b0, H⟩
   ·have HC3 := ak_ H; clear H; go_upto_region 5 with (fail)
    go_cut [29] (fun v29 wc => ∃ (kq : Nat) (x29_2 : Bool), v29 = .bool x29_2 ∧ Aside0 (spec_l5Bare.j1 kq a0 x3_1 x4_1 x29_2 = some r) ∧ Aside0 (kq ≤ k1) ∧ Drawn0 w wc)
    case first =>
     have H := HC3.out; clear HC3; replace H := itd_ H; obtain ⟨c4b0, H⟩ := H; (first | rw [c4b0] | (simp only [i64_w, i32_w]; rw [c4b0]) | skip)
     replace H := ite_ H; rcases H with ⟨c6, H⟩ | ⟨c6, H⟩
     ·have c6b0 := beq_iff_eq.mpr c6; have c6b1 := bne_eq_false_iff_eq.mpr c6; clear c6; replace H := ied_ H; rcases H with ⟨c7b0, H⟩ | ⟨c7b0, H⟩
      ·have H' := ak_ H; clear H; have p5 : 0 ≤ (x4_1 : Int) := oda_
       have q5 : x4_1 < (a0.size : Int) := oda_
       have hx5 := bt_at a0 x4_1; replace p5 := eq_true p5; replace q5 := eq_true q5; go_wp2; go_meet
       case rel => exact ⟨_, (true), sv_, H', ⟨by have := HK1.out; first | omega | exact Nat.le_refl _⟩, by repeat (first | exact Drawn0.refl _ | apply Drawn0.step)⟩
      ·obtain ⟨ji8, hji8⟩ : ∃ j_ : Int, (wrap64 (x4_1 + 1)) = j_ := ⟨_, rfl⟩
       replace H : (if 0 ≤ (ji8) then (if (ji8) < (a0.size : Int) then (spec_l5Bare.j1 k1 a0 x3_1 x4_1 ((bt a0 (ji8)) != 42)) else (none)) else (none)) = some r := by first | (rw [hji8] at H; exact H) | (simp only [hji8] at H ⊢; exact H)
       (try rw [hji8] at c7b0)
       have hji8w : (IntKind.i64.wrap (x4_1 + 1)) = ji8 := (i64_w _).trans hji8
       replace H := itd_ H; obtain ⟨c9b0, H⟩ := H; replace H := itd_ H; obtain ⟨c10b0, H⟩ := H; have H' := ak_ H; clear H; have p5 : 0 ≤ (x4_1 : Int) := oda_
       have q5 : x4_1 < (a0.size : Int) := oda_
       have hx5 := bt_at a0 x4_1; replace p5 := eq_true p5; replace q5 := eq_true q5; have p11 : 0 ≤ ((ji8) : Int) := oda_
       have q11 : (ji8) < (a0.size : Int) := oda_
       have hx11 := bt_at a0 (ji8); replace p11 := eq_true p11; replace q11 := eq_true q11; go_wp2; go_meet
       case rel => exact ⟨_, (((bt a0 (ji8)) != 42)), (by first | rfl | (simp; done) | (simp only [← hji8] <;> (first | rfl | simp)) | (simp [*]; done)), H', ⟨by have := HK1.out; first | omega | exact Nat.le_refl _⟩, by repeat (first | exact Drawn0.refl _ | apply Drawn0.step)⟩
     ·have c6b0 := beq_eq_false_iff_ne.mpr c6; have c6b1 := bne_iff_ne.mpr c6; have H' := ak_ H; clear H; have p5 : 0 ≤ (x4_1 : Int) := oda_
      have q5 : x4_1 < (a0.size : Int) := oda_
      have hx5 := bt_at a0 x4_1; replace p5 := eq_true p5; replace q5 := eq_true q5; go_wp2; go_meet
      case rel => exact ⟨_, (true), sv_, H', ⟨by have := HK1.out; first | omega | exact Nat.le_refl _⟩, by repeat (first | exact Drawn0.refl _ | apply Drawn0.step)⟩
    case rest =>
     clear HC3; (try clear c2b0)
     obtain ⟨kq, x29_2, rfl, HA, HJ2, ⟨mc2, rfl⟩⟩ := hcut; cases kq with
     | zero => exact absurd HA.out (by simp [spec_l5Bare.j1])
     | succ kj2 =>
      have H := HA.out; clear HA; simp only [spec_l5Bare.j1] at H
      replace H := itb_ H; rcases H with ⟨rfl, H⟩ | ⟨rfl, H⟩
      ·replace H := itn_ H; obtain ⟨c13, H⟩ := H; have c13b0 := eq_true c13; have c13b1 := decide_eq_true c13; clear c13; replace H := itn_ H; obtain ⟨c14, H⟩ := H; have c14b0 := eq_true c14; have c14b1 := decide_eq_true c14; replace H := itn_ H; obtain ⟨c15, H⟩ := H; have c15b0 := eq_true c15; have c15b1 := decide_eq_true c15; replace H := itn_ H; obtain ⟨c16, H⟩ := H; have c16b0 := eq_true c16; have c16b1 := decide_eq_true c16; try have c16b2 : (9223372036854775807 < x3_1.size + (a0.extract (x4_1 : Int).toNat ((wrap64 (x4_1 + 1)) : Int).toNat).size) = False := eq_false (Nat.not_lt.2 c16)
       have H' := ak_ H; clear H; go_wp2; go_roundg kj2
       case measure => have := HK1.out; have := HJ2.out; omega
       case rel => exact ⟨(x3_1 ++ (a0.extract (x4_1 : Int).toNat ((wrap64 (x4_1 + 1)) : Int).toNat)), (wrap64 (x4_1 + 1)), sv_, sv_, H', ⟨by have := HK1.out; have := HJ2.out; omega⟩, by repeat (first | exact Drawn0.refl _ | apply Drawn0.step)⟩
      ·have H' := ak_ H; clear H; go_wp2; go_loopg [5] kj2 (fun kq v5 w' => ∃ (x5_3 : Int), v5 = .int .i64 x5_3 ∧ Aside0 (spec_l5Bare.l1 kq a0 x3_1 x5_3 = some r) ∧ Aside0 (kq ≤ kj2) ∧ Drawn0 w w')
       case atStart => exact ⟨(wrap64 (x4_1 + 2)), sv_, H', ⟨Nat.le_refl _⟩, by repeat (first | exact Drawn0.refl _ | apply Drawn0.step)⟩
       case round =>
        clear H'; (try clear c2b0)
        obtain ⟨x5_3, rfl, HA, HK3, ⟨m3, rfl⟩⟩ := hrel; cases gk with
        | zero => exact absurd HA.out (by simp [spec_l5Bare.l1])
        | succ k3 =>
         have H := HA.out; clear HA; simp only [spec_l5Bare.l1] at H
         replace H := ied_ H; rcases H with ⟨c17b0, H⟩ | ⟨c17b0, H⟩
         ·replace H := itd_ H; obtain ⟨c18b0, H⟩ := H; replace H := ite_ H; rcases H with ⟨c20, H⟩ | ⟨c20, H⟩
          ·have c20b0 := beq_iff_eq.mpr c20; have c20b1 := bne_eq_false_iff_eq.mpr c20; clear c20; replace H := ied_ H; rcases H with ⟨c21b0, H⟩ | ⟨c21b0, H⟩
           ·obtain ⟨ji22, hji22⟩ : ∃ j_ : Int, (wrap64 (x5_3 + 1)) = j_ := ⟨_, rfl⟩
            replace H : (if 0 ≤ (ji22) then (if ((bt a0 (ji22)) = 47) then (if x3_1.size + 1 ≤ 9223372036854775807 then (spec_l5Bare.l0 k3 a0 (x3_1 ++ (⟨#[32]⟩ : ByteArray)) (wrap64 ((ji22) + 1))) else (none)) else (spec_l5Bare.l1 k3 a0 x3_1 ji22)) else (none)) = some r := by first | (rw [hji22] at H; exact H) | (simp only [hji22] at H ⊢; exact H)
            (try rw [hji22] at c21b0)
            have hji22w : (IntKind.i64.wrap (x5_3 + 1)) = ji22 := (i64_w _).trans hji22
            replace H := itd_ H; obtain ⟨c23b0, H⟩ := H; replace H := ite_ H; rcases H with ⟨c25, H⟩ | ⟨c25, H⟩
            ·have c25b0 := beq_iff_eq.mpr c25; have c25b1 := bne_eq_false_iff_eq.mpr c25; clear c25; replace H := itn_ H; obtain ⟨c26, H⟩ := H; have c26b0 := eq_true c26; have c26b1 := decide_eq_true c26; try have c26b2 : (9223372036854775807 < x3_1.size + 1) = False := eq_false (Nat.not_lt.2 c26)
             have H' := ak_ H; clear H; have p19 : 0 ≤ (x5_3 : Int) := oda_
             have q19 : x5_3 < (a0.size : Int) := oda_
             have hx19 := bt_at a0 x5_3; replace p19 := eq_true p19; replace q19 := eq_true q19; have p24 : 0 ≤ ((ji22) : Int) := oda_
             have q24 : (ji22) < (a0.size : Int) := oda_
             have hx24 := bt_at a0 (ji22); replace p24 := eq_true p24; replace q24 := eq_true q24; go_wp2; go_roundg k3
             case measure => have := HK1.out; have := HJ2.out; have := HK3.out; omega
             case rel => exact ⟨(x3_1 ++ (⟨#[32]⟩ : ByteArray)), (wrap64 ((ji22) + 1)), sv_, (by first | rfl | (simp; done) | (simp only [← hji22] <;> (first | rfl | simp)) | (simp [*]; done)), H', ⟨by have := HK1.out; have := HJ2.out; have := HK3.out; omega⟩, by repeat (first | exact Drawn0.refl _ | apply Drawn0.step)⟩
            ·have c25b0 := beq_eq_false_iff_ne.mpr c25; have c25b1 := bne_iff_ne.mpr c25; have H' := ak_ H; clear H; have p19 : 0 ≤ (x5_3 : Int) := oda_
             have q19 : x5_3 < (a0.size : Int) := oda_
             have hx19 := bt_at a0 x5_3; replace p19 := eq_true p19; replace q19 := eq_true q19; have p24 : 0 ≤ ((ji22) : Int) := oda_
             have q24 : (ji22) < (a0.size : Int) := oda_
             have hx24 := bt_at a0 (ji22); replace p24 := eq_true p24; replace q24 := eq_true q24; go_wp2; go_roundg k3
             case measure => have := HK1.out; have := HJ2.out; have := HK3.out; omega
             case rel => exact ⟨(ji22), (by first | rfl | (simp; done) | (simp only [← hji22] <;> (first | rfl | simp)) | (simp [*]; done)), H', ⟨by have := HK1.out; have := HJ2.out; have := HK3.out; omega⟩, by repeat (first | exact Drawn0.refl _ | apply Drawn0.step)⟩
           ·have H' := ak_ H; clear H; have p19 : 0 ≤ (x5_3 : Int) := oda_
            have q19 : x5_3 < (a0.size : Int) := oda_
            have hx19 := bt_at a0 x5_3; replace p19 := eq_true p19; replace q19 := eq_true q19; go_wp2; go_roundg k3
            case measure => have := HK1.out; have := HJ2.out; have := HK3.out; omega
            case rel => exact ⟨(wrap64 (x5_3 + 1)), sv_, H', ⟨by have := HK1.out; have := HJ2.out; have := HK3.out; omega⟩, by repeat (first | exact Drawn0.refl _ | apply Drawn0.step)⟩
          ·have c20b0 := beq_eq_false_iff_ne.mpr c20; have c20b1 := bne_iff_ne.mpr c20; have H' := ak_ H; clear H; have p19 : 0 ≤ (x5_3 : Int) := oda_
           have q19 : x5_3 < (a0.size : Int) := oda_
           have hx19 := bt_at a0 x5_3; replace p19 := eq_true p19; replace q19 := eq_true q19; go_wp2; go_roundg k3
           case measure => have := HK1.out; have := HJ2.out; have := HK3.out; omega
           case rel => exact ⟨(wrap64 (x5_3 + 1)), sv_, H', ⟨by have := HK1.out; have := HJ2.out; have := HK3.out; omega⟩, by repeat (first | exact Drawn0.refl _ | apply Drawn0.step)⟩
         ·replace H := itn_ H; obtain ⟨c27, H⟩ := H; have c27b0 := eq_true c27; have c27b1 := decide_eq_true c27; try have c27b2 : (9223372036854775807 < x3_1.size + 1) = False := eq_false (Nat.not_lt.2 c27)
          have H' := ak_ H; clear H; go_wp2; go_roundg k3
          case measure => have := HK1.out; have := HJ2.out; have := HK3.out; omega
          case rel => exact ⟨(x3_1 ++ (⟨#[32]⟩ : ByteArray)), (wrap64 ((wrap64 (x5_3 + 1)) + 1)), sv_, sv_, H', ⟨by have := HK1.out; have := HJ2.out; have := HK3.out; omega⟩, by repeat (first | exact Drawn0.refl _ | apply Drawn0.step)⟩
   ·obtain rfl := Option.some.inj H
    go_wp2; go_ret
    exact dn_

/-! ### spec_l5Find: function 72 -/
def spec_l5Find.l0 : Nat → ByteArray → Int → Int → Option (Int)
 | 0, _, _, _ => none
 | k + 1, x0, x1, x2 => if x1 < (x0.size : Int) then (if 0 ≤ x1 then (if (bt x0 x1) = x2 then (some x1) else (spec_l5Find.l0 k x0 (wrap64 (x1 + 1)) x2)) else (none)) else (some x1)
def spec_l5Find.f (k : Nat) (a0 : ByteArray) (a1 : Int) (a2 : Int) : Option (Int) := spec_l5Find.l0 k a0 a1 a2
theorem spec_l5Find.calls (k : Nat) (a0 : ByteArray) (a1 : Int) (a2 : Int) (r : Int) (w : World) (h : spec_l5Find.f k a0 a1 a2 = some r) :
  Calls Tryz.prog 72 #[.string a0, .int .i64 a1, .int .u8 a2] w fun e w' => e = .returned (.int .i64 r) ∧ Drawn0 w w' := by
 have H := h; unfold spec_l5Find.f at H
 clear h; have H' := ak_ H; clear H; go_enter Tryz.func72, Tryz.ntmps72
 go_wp2; go_loopg [1] k (fun kq v1 w' => ∃ (x1_1 : Int), v1 = .int .i64 x1_1 ∧ Aside0 (spec_l5Find.l0 kq a0 x1_1 a2 = some r) ∧ Aside0 (kq ≤ k) ∧ Drawn0 w w')
 case atStart => exact ⟨(a1), sv_, H', ⟨Nat.le_refl _⟩, by repeat (first | exact Drawn0.refl _ | apply Drawn0.step)⟩
 case round =>
  clear H'; (try clear p2)
  obtain ⟨x1_1, rfl, HA, HK1, ⟨m1, rfl⟩⟩ := hrel; cases gk with
  | zero => exact absurd HA.out (by simp [spec_l5Find.l0])
  | succ k1 =>
   have H := HA.out; clear HA; simp only [spec_l5Find.l0] at H
   replace H := ied_ H; rcases H with ⟨c4b0, H⟩ | ⟨c4b0, H⟩
   ·replace H := itd_ H; obtain ⟨c5b0, H⟩ := H; replace H := ite_ H; rcases H with ⟨c7, H⟩ | ⟨c7, H⟩
    ·have c7b0 := beq_iff_eq.mpr c7; have c7b1 := bne_eq_false_iff_eq.mpr c7; clear c7; obtain rfl := Option.some.inj H
     have p6 : 0 ≤ (x1_1 : Int) := oda_
     have q6 : x1_1 < (a0.size : Int) := oda_
     have hx6 := bt_at a0 x1_1; replace p6 := eq_true p6; replace q6 := eq_true q6; go_wp2; go_ret
     exact dn_
    ·have c7b0 := beq_eq_false_iff_ne.mpr c7; have c7b1 := bne_iff_ne.mpr c7; have H' := ak_ H; clear H; have p6 : 0 ≤ (x1_1 : Int) := oda_
     have q6 : x1_1 < (a0.size : Int) := oda_
     have hx6 := bt_at a0 x1_1; replace p6 := eq_true p6; replace q6 := eq_true q6; go_wp2; go_roundg k1
     case measure => have := HK1.out; omega
     case rel => exact ⟨(wrap64 (x1_1 + 1)), sv_, H', ⟨by have := HK1.out; omega⟩, by repeat (first | exact Drawn0.refl _ | apply Drawn0.step)⟩
   ·obtain rfl := Option.some.inj H
    go_wp2; go_ret
    exact dn_

/-! ### spec_l1Split: function 74 -/
def spec_l1Split.l0 : Nat → ByteArray → Int → List ByteArray → Int → Int → Option (List ByteArray)
 | 0, _, _, _, _, _ => none
 | k + 1, x0, x1, x5, x6, x7 => if x7 ≤ (x0.size : Int) then (if x7 = (x0.size : Int) then (if 0 ≤ x6 then (if x6 ≤ x7 then (if x5.length < 8796093022208 then (spec_l1Split.l0 k x0 x1 (x5 ++ [x0.extract (x6 : Int).toNat (x7 : Int).toNat]) (wrap64 (x7 + 1)) (wrap64 (x7 + 1))) else (none)) else (none)) else (none)) else (if 0 ≤ x7 then (if x7 < (x0.size : Int) then (if (bt x0 x7) = x1 then (if 0 ≤ x6 then (if x6 ≤ x7 then (if x5.length < 8796093022208 then (spec_l1Split.l0 k x0 x1 (x5 ++ [x0.extract (x6 : Int).toNat (x7 : Int).toNat]) (wrap64 (x7 + 1)) (wrap64 (x7 + 1))) else (none)) else (none)) else (none)) else (spec_l1Split.l0 k x0 x1 x5 x6 (wrap64 (x7 + 1)))) else (none)) else (none))) else (some x5)
def spec_l1Split.f (k : Nat) (a0 : ByteArray) (a1 : Int) : Option (List ByteArray) := spec_l1Split.l0 k a0 a1 ([] : List ByteArray) 0 0
theorem spec_l1Split.calls (k : Nat) (a0 : ByteArray) (a1 : Int) (r : List ByteArray) (w : World) (h : spec_l1Split.f k a0 a1 = some r) :
  Calls Tryz.prog 74 #[.string a0, .int .u8 a1] w fun e w' => ∃ v0_ : Value, e = .returned (v0_) ∧ Kd.R Kd.string 9 w' w.heap.size (fun _ => True) v0_ r ∧ Below w.heap.size w w' := by
 have HB := ak_ (Below.refl w.heap.size w); have H := h; unfold spec_l1Split.f at H
 clear h; have H' := ak_ H; clear H; go_enter Tryz.func74, Tryz.ntmps74
 go_wp2; go_loopg [5, 6, 7] k (fun kq v5 v6 v7 w' => ∃ (x5_1 : List ByteArray) (x6_1 : Int) (x7_1 : Int), v6 = .int .i64 x6_1 ∧ v7 = .int .i64 x7_1 ∧ Aside0 (spec_l1Split.l0 kq a0 a1 x5_1 x6_1 x7_1 = some r) ∧ Aside0 (kq ≤ k) ∧ Aside0 (Kd.R Kd.string 9 w' w.heap.size (fun _ => True) v5 x5_1) ∧ Aside0 (Below w.heap.size w w'))
 case atStart => exact ⟨(([] : List ByteArray)), (0), (0), sv_, sv_, H', ⟨Nat.le_refl _⟩, ⟨by first | exact Kd.R_nil _ _ _ _ _ | exact Kd.N_nil _ _ _ _ _ | exact Kd.V_nil _ _ _ _ _ | exact Kd.Q_nil _ _ _ _ _ | exact Kd.S_nil _ _ _ _ _⟩, ⟨bel_⟩⟩
 case round =>
  clear H'; (try clear p2)
  obtain ⟨x5_1, x6_1, x7_1, rfl, rfl, HA, HK1, HO_5, HB⟩ := hrel; cases gk with
  | zero => exact absurd HA.out (by simp [spec_l1Split.l0])
  | succ k1 =>
   have H := HA.out; clear HA; simp only [spec_l1Split.l0] at H
   replace H := ied_ H; rcases H with ⟨c3b0, H⟩ | ⟨c3b0, H⟩
   ·replace H := ite_ H; rcases H with ⟨c4, H⟩ | ⟨c4, H⟩
    ·have c4b0 := beq_iff_eq.mpr c4; have c4b1 := bne_eq_false_iff_eq.mpr c4; clear c4; replace H := itn_ H; obtain ⟨c5, H⟩ := H; have c5b0 := eq_true c5; have c5b1 := decide_eq_true c5; clear c5; replace H := itn_ H; obtain ⟨c6, H⟩ := H; have c6b0 := eq_true c6; have c6b1 := decide_eq_true c6; clear c6; have c7b0 := eq_true (oda_ : x7_1 ≤ (a0.size : Int)); replace H := itn_ H; obtain ⟨c8, H⟩ := H; have LMc8 := ak_ c8; clear c8; obtain ⟨y143, hy143⟩ : ∃ y_ : List ByteArray, y_ = (x5_1 ++ [a0.extract (x6_1 : Int).toNat (x7_1 : Int).toNat]) := ⟨_, rfl⟩
     replace H : (spec_l1Split.l0 k1 a0 a1 y143 (wrap64 (x7_1 + 1)) (wrap64 (x7_1 + 1))) = some r := by first | (rw [hy143]; with_reducible exact H) | (have H2_ := (Option.bind_some _ _).symm.trans H; rw [hy143]; with_reducible exact H2_) | (have H2_ := (Option.bind_some _ _).symm.trans H; with_reducible exact H2_) | with_reducible exact H | (rw [hy143]; exact H) | exact H
     have Ny143 := ak_ hy143; clear hy143; have H' := ak_ H; clear H; go_wp2_with (first | ((with_reducible refine gate_builtin (b := .append) (xs := #[.tmp 25, .tmp 30]) rfl ?_); at_builtin; refine Kd.R_append Kd.string (w0 := w) w.heap.size rfl (.tmp 25) (.tmp 30) 92 9 (.string ⟨#[]⟩) 16 rfl Tryz.underlying92 info9 rfl (by decide) (by omega) u5 x5_1 (a0.extract (x6_1 : Int).toNat (x7_1 : Int).toNat) [.string (a0.extract (x6_1 : Int).toNat (x7_1 : Int).toNat)] (fun _ => True) (fun _ => False) rfl rfl ?aP (fun _ hk => hk.elim) ?aF ?aO ?aB ?aS ?aL ?_; (case aP => exact rfl); (case aB => exact bel_); (case aF => exact (fun _ _ => trivial)); (case aO => exact (kdR_ HO_5.out)); (case aS => exact (below_size bel_)); (case aL => have := LMc8.out; omega); intro v144 w9 ho hb hg hat; rw [← Ny143.out] at ho; have n_ := an2_ (hb) (ho); clear HB HO_5; obtain ⟨HB, HO145⟩ := n_; clear ho hb hg hat))
     go_roundg k1
     case measure => have := HK1.out; omega
     case rel => exact ⟨(y143), (wrap64 (x7_1 + 1)), (wrap64 (x7_1 + 1)), sv_, sv_, H', ⟨by have := HK1.out; omega⟩, ⟨kdR_ HO145.out⟩, ⟨bel_⟩⟩
    ·have c4b0 := beq_eq_false_iff_ne.mpr c4; have c4b1 := bne_iff_ne.mpr c4; replace H := itd_ H; obtain ⟨c10b0, H⟩ := H; replace H := itd_ H; obtain ⟨c11b0, H⟩ := H; replace H := ite_ H; rcases H with ⟨c13, H⟩ | ⟨c13, H⟩
     ·have c13b0 := beq_iff_eq.mpr c13; have c13b1 := bne_eq_false_iff_eq.mpr c13; clear c13; replace H := itn_ H; obtain ⟨c14, H⟩ := H; have c14b0 := eq_true c14; have c14b1 := decide_eq_true c14; clear c14; replace H := itn_ H; obtain ⟨c15, H⟩ := H; have c15b0 := eq_true c15; have c15b1 := decide_eq_true c15; clear c15; have c16b0 := eq_true (oda_ : x7_1 ≤ (a0.size : Int)); replace H := itn_ H; obtain ⟨c17, H⟩ := H; have LMc17 := ak_ c17; clear c17; obtain ⟨y146, hy146⟩ : ∃ y_ : List ByteArray, y_ = (x5_1 ++ [a0.extract (x6_1 : Int).toNat (x7_1 : Int).toNat]) := ⟨_, rfl⟩
      replace H : (spec_l1Split.l0 k1 a0 a1 y146 (wrap64 (x7_1 + 1)) (wrap64 (x7_1 + 1))) = some r := by first | (rw [hy146]; with_reducible exact H) | (have H2_ := (Option.bind_some _ _).symm.trans H; rw [hy146]; with_reducible exact H2_) | (have H2_ := (Option.bind_some _ _).symm.trans H; with_reducible exact H2_) | with_reducible exact H | (rw [hy146]; exact H) | exact H
      have Ny146 := ak_ hy146; clear hy146; have H' := ak_ H; clear H; have p12 : 0 ≤ (x7_1 : Int) := oda_
      have q12 : x7_1 < (a0.size : Int) := oda_
      have hx12 := bt_at a0 x7_1; replace p12 := eq_true p12; replace q12 := eq_true q12; go_wp2_with (first | ((with_reducible refine gate_builtin (b := .append) (xs := #[.tmp 25, .tmp 30]) rfl ?_); at_builtin; refine Kd.R_append Kd.string (w0 := w) w.heap.size rfl (.tmp 25) (.tmp 30) 92 9 (.string ⟨#[]⟩) 16 rfl Tryz.underlying92 info9 rfl (by decide) (by omega) u5 x5_1 (a0.extract (x6_1 : Int).toNat (x7_1 : Int).toNat) [.string (a0.extract (x6_1 : Int).toNat (x7_1 : Int).toNat)] (fun _ => True) (fun _ => False) rfl rfl ?aP (fun _ hk => hk.elim) ?aF ?aO ?aB ?aS ?aL ?_; (case aP => exact rfl); (case aB => exact bel_); (case aF => exact (fun _ _ => trivial)); (case aO => exact (kdR_ HO_5.out)); (case aS => exact (below_size bel_)); (case aL => have := LMc17.out; omega); intro v147 w18 ho hb hg hat; rw [← Ny146.out] at ho; have n_ := an2_ (hb) (ho); clear HB HO_5; obtain ⟨HB, HO148⟩ := n_; clear ho hb hg hat))
      go_roundg k1
      case measure => have := HK1.out; omega
      case rel => exact ⟨(y146), (wrap64 (x7_1 + 1)), (wrap64 (x7_1 + 1)), sv_, sv_, H', ⟨by have := HK1.out; omega⟩, ⟨kdR_ HO148.out⟩, ⟨bel_⟩⟩
     ·have c13b0 := beq_eq_false_iff_ne.mpr c13; have c13b1 := bne_iff_ne.mpr c13; have H' := ak_ H; clear H; have p12 : 0 ≤ (x7_1 : Int) := oda_
      have q12 : x7_1 < (a0.size : Int) := oda_
      have hx12 := bt_at a0 x7_1; replace p12 := eq_true p12; replace q12 := eq_true q12; go_wp2; go_roundg k1
      case measure => have := HK1.out; omega
      case rel => exact ⟨(x5_1), (x6_1), (wrap64 (x7_1 + 1)), sv_, sv_, H', ⟨by have := HK1.out; omega⟩, ⟨kdR_ HO_5.out⟩, ⟨bel_⟩⟩
   ·obtain rfl := Option.some.inj H
    go_wp2; go_ret
    exact ⟨_, er_, kdR_ HO_5.out, bel_⟩

/-! ### spec_l4Blank: function 90 -/
def spec_l4Blank.f (a0 : Int) : Option (Bool) := if a0 = 9 then (some true) else (if a0 = 10 then (some true) else (if a0 = 13 then (some true) else (some (a0 == 32))))
theorem spec_l4Blank.calls (a0 : Int) (r : Bool) (w : World) (h : spec_l4Blank.f a0 = some r) :
  Calls Tryz.prog 90 #[.int .u8 a0] w fun e w' => e = .returned (.bool r) ∧ Drawn0 w w' := by
 have H := h; unfold spec_l4Blank.f at H
 clear h; replace H := ite_ H; rcases H with ⟨c2, H⟩ | ⟨c2, H⟩
 ·have c2b0 := beq_iff_eq.mpr c2; have c2b1 := bne_eq_false_iff_eq.mpr c2; clear c2; obtain rfl := Option.some.inj H
  go_enter Tryz.func90, Tryz.ntmps90
  go_wp2; go_ret
  exact dn_
 ·have c2b0 := beq_eq_false_iff_ne.mpr c2; have c2b1 := bne_iff_ne.mpr c2; replace H := ite_ H; rcases H with ⟨c3, H⟩ | ⟨c3, H⟩
  ·have c3b0 := beq_iff_eq.mpr c3; have c3b1 := bne_eq_false_iff_eq.mpr c3; clear c3; obtain rfl := Option.some.inj H
   go_enter Tryz.func90, Tryz.ntmps90
   go_wp2; go_ret
   exact dn_
  ·have c3b0 := beq_eq_false_iff_ne.mpr c3; have c3b1 := bne_iff_ne.mpr c3; replace H := ite_ H; rcases H with ⟨c4, H⟩ | ⟨c4, H⟩
   ·have c4b0 := beq_iff_eq.mpr c4; have c4b1 := bne_eq_false_iff_eq.mpr c4; clear c4; obtain rfl := Option.some.inj H
    go_enter Tryz.func90, Tryz.ntmps90
    go_wp2; go_ret
    exact dn_
   ·have c4b0 := beq_eq_false_iff_ne.mpr c4; have c4b1 := bne_iff_ne.mpr c4; obtain rfl := Option.some.inj H
    go_enter Tryz.func90, Tryz.ntmps90
    go_wp2; go_ret
    exact dn_

/-! ### spec_l5Trim: function 109 -/
mutual
def spec_l5Trim.j1 : Nat → ByteArray → Option (ByteArray)
 | 0, _ => none
 | k + 1, x0 => spec_l5Trim.l1 k x0
def spec_l5Trim.l1 : Nat → ByteArray → Option (ByteArray)
 | 0, _ => none
 | k + 1, x0 => if (x0.size : Int) > 0 then (if 0 ≤ (wrap64 ((x0.size : Int) - 1)) then (if (wrap64 ((x0.size : Int) - 1)) < (x0.size : Int) then ((spec_l4Blank.f (bt x0 (wrap64 ((x0.size : Int) - 1)))).bind fun t150 => (if t150 = true then (if (wrap64 ((x0.size : Int) - 1)) ≤ (x0.size : Int) then (spec_l5Trim.l1 k (x0.extract 0 ((wrap64 ((x0.size : Int) - 1)) : Int).toNat)) else (none)) else (some x0))) else (none)) else (none)) else (some x0)
def spec_l5Trim.l0 : Nat → ByteArray → Option (ByteArray)
 | 0, _ => none
 | k + 1, x0 => if (x0.size : Int) > 0 then (if 0 < (x0.size : Int) then ((spec_l4Blank.f (bt x0 0)).bind fun t149 => (if t149 = true then (if 1 ≤ (x0.size : Int) then (spec_l5Trim.l0 k (x0.extract 1 x0.size)) else (none)) else (spec_l5Trim.j1 k x0))) else (none)) else (spec_l5Trim.j1 k x0)
end
def spec_l5Trim.f (k : Nat) (a0 : ByteArray) : Option (ByteArray) := spec_l5Trim.l0 k a0
theorem spec_l5Trim.calls (k : Nat) (a0 : ByteArray) (r : ByteArray) (w : World) (h : spec_l5Trim.f k a0 = some r) :
  Calls Tryz.prog 109 #[.string a0] w fun e w' => e = .returned (.string r) ∧ Drawn0 w w' := by
 have H := h; unfold spec_l5Trim.f at H
 clear h; have HC2 := ak_ H; clear H; go_enter Tryz.func109, Tryz.ntmps109
 go_upto_block 0 with (fail)
 go_cut [0] (fun v0 wc => ∃ (kq : Nat) (x0_1 : ByteArray), v0 = .string x0_1 ∧ Aside0 (spec_l5Trim.j1 kq x0_1 = some r) ∧ Aside0 (kq ≤ k) ∧ Drawn0 w wc)
 case first =>
  have H := HC2.out; clear HC2; have H' := ak_ H; clear H; go_wp2; go_loopg [0] k (fun kq v0 w' => ∃ (x0_1 : ByteArray), v0 = .string x0_1 ∧ Aside0 (spec_l5Trim.l0 kq x0_1 = some r) ∧ Aside0 (kq ≤ k) ∧ Drawn0 w w')
  case atStart => exact ⟨(a0), sv_, H', ⟨Nat.le_refl _⟩, by repeat (first | exact Drawn0.refl _ | apply Drawn0.step)⟩
  case round =>
   clear H'; obtain ⟨x0_1, rfl, HA, HK1, ⟨m1, rfl⟩⟩ := hrel; cases gk with
   | zero => exact absurd HA.out (by simp [spec_l5Trim.l0])
   | succ k1 =>
    have H := HA.out; clear HA; simp only [spec_l5Trim.l0] at H
    replace H := ite_ H; rcases H with ⟨c3, H⟩ | ⟨c3, H⟩
    ·have c3b0 := decide_eq_true c3; have c3b1 : decide (0 < x0_1.size) = true := decide_eq_true (by omega)
     clear c3; (first | rw [c3b0] | (simp only [i64_w, i32_w]; rw [c3b0]) | skip)
     replace H := itn_ H; obtain ⟨c4, H⟩ := H; have c4b0 := decide_eq_true c4; have c4b1 : decide (0 < x0_1.size) = true := decide_eq_true (by omega)
     clear c4; replace H := bnd_ H; obtain ⟨t149, A6, H⟩ := H; replace H := itb_ H; rcases H with ⟨rfl, H⟩ | ⟨rfl, H⟩
     ·replace H := itn_ H; obtain ⟨c8, H⟩ := H; have c8b0 := eq_true c8; have c8b1 := decide_eq_true c8; clear c8; have H' := ak_ H; clear H; have p5 : 0 ≤ (0 : Int) := (by omega)
      have q5 : 0 < x0_1.size := (by have : (0 : Int) < (x0_1.size : Int) := oda_; omega)
      have hx5 : ∀ h : 0 < x0_1.size, ((x0_1[0]'h).toNat : Int) = bt x0_1 0 := bt_at x0_1 0
      clear p5; have qi5 : (0 < (x0_1.size : Int)) = True := eq_true (oda_)
      replace q5 := eq_true q5; go_wp2_with (first | (go_at_call 90; (with_reducible refine (spec_l4Blank.calls (bt x0_1 0) true _ A6.out).mono ?_); rintro e w' ⟨rfl, ⟨nd, rfl⟩⟩))
      go_roundg k1
      case measure => have := HK1.out; omega
      case rel => exact ⟨(x0_1.extract 1 x0_1.size), sv_, H', ⟨by have := HK1.out; omega⟩, by repeat (first | exact Drawn0.refl _ | apply Drawn0.step)⟩
     ·have H' := ak_ H; clear H; have p5 : 0 ≤ (0 : Int) := (by omega)
      have q5 : 0 < x0_1.size := (by have : (0 : Int) < (x0_1.size : Int) := oda_; omega)
      have hx5 : ∀ h : 0 < x0_1.size, ((x0_1[0]'h).toNat : Int) = bt x0_1 0 := bt_at x0_1 0
      clear p5; have qi5 : (0 < (x0_1.size : Int)) = True := eq_true (oda_)
      replace q5 := eq_true q5; go_wp2_with (first | (go_at_call 90; (with_reducible refine (spec_l4Blank.calls (bt x0_1 0) false _ A6.out).mono ?_); rintro e w' ⟨rfl, ⟨nd, rfl⟩⟩))
      go_meet
      case rel => exact ⟨_, (x0_1), sv_, H', ⟨by have := HK1.out; first | omega | exact Nat.le_refl _⟩, by repeat (first | exact Drawn0.refl _ | apply Drawn0.step)⟩
    ·have c3b0 := decide_eq_false c3; have c3b1 : decide (0 < x0_1.size) = false := decide_eq_false (by omega)
     clear c3; (first | rw [c3b0] | (simp only [i64_w, i32_w]; rw [c3b0]) | skip)
     have H' := ak_ H; clear H; go_wp2; go_meet
     case rel => exact ⟨_, (x0_1), sv_, H', ⟨by have := HK1.out; first | omega | exact Nat.le_refl _⟩, by repeat (first | exact Drawn0.refl _ | apply Drawn0.step)⟩
 case rest =>
  clear HC2; obtain ⟨kq, x0_1, rfl, HA, HJ1, ⟨mc1, rfl⟩⟩ := hcut; cases kq with
  | zero => exact absurd HA.out (by simp [spec_l5Trim.j1])
  | succ kj1 =>
   have H := HA.out; clear HA; simp only [spec_l5Trim.j1] at H
   have H' := ak_ H; clear H; go_wp2; go_loopg [0] kj1 (fun kq v0 w' => ∃ (x0_2 : ByteArray), v0 = .string x0_2 ∧ Aside0 (spec_l5Trim.l1 kq x0_2 = some r) ∧ Aside0 (kq ≤ kj1) ∧ Drawn0 w w')
   case atStart => exact ⟨(x0_1), sv_, H', ⟨Nat.le_refl _⟩, by repeat (first | exact Drawn0.refl _ | apply Drawn0.step)⟩
   case round =>
    clear H'; obtain ⟨x0_2, rfl, HA, HK2, ⟨m2, rfl⟩⟩ := hrel; cases gk with
    | zero => exact absurd HA.out (by simp [spec_l5Trim.l1])
    | succ k2 =>
     have H := HA.out; clear HA; simp only [spec_l5Trim.l1] at H
     replace H := ite_ H; rcases H with ⟨c9, H⟩ | ⟨c9, H⟩
     ·have c9b0 := decide_eq_true c9; have c9b1 : decide (0 < x0_2.size) = true := decide_eq_true (by omega)
      clear c9; obtain ⟨ji10, hji10⟩ : ∃ j_ : Int, (wrap64 ((x0_2.size : Int) - 1)) = j_ := ⟨_, rfl⟩
      replace H : (if 0 ≤ (ji10) then (if (ji10) < (x0_2.size : Int) then ((spec_l4Blank.f (bt x0_2 (ji10))).bind fun t150 => (if t150 = true then (if (ji10) ≤ (x0_2.size : Int) then (spec_l5Trim.l1 k2 (x0_2.extract 0 ((ji10) : Int).toNat)) else (none)) else (some x0_2))) else (none)) else (none)) = some r := by first | (rw [hji10] at H; exact H) | (simp only [hji10] at H ⊢; exact H)
      have hji10w : (IntKind.i64.wrap ((x0_2.size : Int) - 1)) = ji10 := (i64_w _).trans hji10
      replace H := itd_ H; obtain ⟨c11b0, H⟩ := H; replace H := itd_ H; obtain ⟨c12b0, H⟩ := H; replace H := bnd_ H; obtain ⟨t150, A14, H⟩ := H; replace H := itb_ H; rcases H with ⟨rfl, H⟩ | ⟨rfl, H⟩
      ·have c16b0 := eq_true (oda_ : 0 ≤ (ji10)); replace H := itn_ H; obtain ⟨c17, H⟩ := H; have c17b0 := eq_true c17; have c17b1 := decide_eq_true c17; clear c17; have H' := ak_ H; clear H; have p13 : 0 ≤ ((ji10) : Int) := oda_
       have q13 : (ji10) < (x0_2.size : Int) := oda_
       have hx13 := bt_at x0_2 (ji10); replace p13 := eq_true p13; replace q13 := eq_true q13; go_wp2_with (first | (go_at_call 90; (with_reducible refine (spec_l4Blank.calls (bt x0_2 (ji10)) true _ A14.out).mono ?_); rintro e w' ⟨rfl, ⟨nd, rfl⟩⟩))
       go_roundg k2
       case measure => have := HJ1.out; have := HK2.out; omega
       case rel => exact ⟨(x0_2.extract 0 ((ji10) : Int).toNat), (by first | rfl | (simp; done) | (simp only [← hji10] <;> (first | rfl | simp)) | (simp [*]; done)), H', ⟨by have := HJ1.out; have := HK2.out; omega⟩, by repeat (first | exact Drawn0.refl _ | apply Drawn0.step)⟩
      ·obtain rfl := Option.some.inj H
       have p13 : 0 ≤ ((ji10) : Int) := oda_
       have q13 : (ji10) < (x0_2.size : Int) := oda_
       have hx13 := bt_at x0_2 (ji10); replace p13 := eq_true p13; replace q13 := eq_true q13; go_wp2_with (first | (go_at_call 90; (with_reducible refine (spec_l4Blank.calls (bt x0_2 (ji10)) false _ A14.out).mono ?_); rintro e w' ⟨rfl, ⟨nd, rfl⟩⟩))
       go_ret
       exact ⟨by first | rfl | (simp; done) | (simp only [← hji10] <;> (first | rfl | simp)) | (simp [*]; done), by repeat (first | exact Drawn0.refl _ | apply Drawn0.step)⟩
     ·have c9b0 := decide_eq_false c9; have c9b1 : decide (0 < x0_2.size) = false := decide_eq_false (by omega)
      clear c9; obtain rfl := Option.some.inj H
      go_wp2; go_ret
      exact dn_

/-! ### spec_l5Start: function 129 -/
def spec_l5Start.f (a0 : Int) : Option (Bool) := (spec_l4Letter.f a0).bind fun t151 => (if t151 = true then (some true) else (some (a0 == 45)))
theorem spec_l5Start.calls (a0 : Int) (r : Bool) (w : World) (h : spec_l5Start.f a0 = some r) :
  Calls Tryz.prog 129 #[.int .u8 a0] w fun e w' => e = .returned (.bool r) ∧ Drawn0 w w' := by
 have H := h; unfold spec_l5Start.f at H
 clear h; replace H := bnd_ H; obtain ⟨t151, A2, H⟩ := H; replace H := itb_ H; rcases H with ⟨rfl, H⟩ | ⟨rfl, H⟩
 ·obtain rfl := Option.some.inj H
  go_enter Tryz.func129, Tryz.ntmps129
  go_wp2_with (first | ((with_reducible refine gate_callee (f := 52) rfl ?_); refine gl_ (some 4) Tryz.func52 #[.int .u8 a0] ?_; (with_reducible refine (spec_l4Letter.calls a0 true _ A2.out).mono ?_); rintro e w' ⟨rfl, ⟨nd, rfl⟩⟩; refine ⟨_, rfl, ?_⟩))
  go_ret
  exact dn_
 ·obtain rfl := Option.some.inj H
  go_enter Tryz.func129, Tryz.ntmps129
  go_wp2_with (first | ((with_reducible refine gate_callee (f := 52) rfl ?_); refine gl_ (some 4) Tryz.func52 #[.int .u8 a0] ?_; (with_reducible refine (spec_l4Letter.calls a0 false _ A2.out).mono ?_); rintro e w' ⟨rfl, ⟨nd, rfl⟩⟩; refine ⟨_, rfl, ?_⟩))
  go_ret
  exact dn_

/-! ### spec_l5Inner: function 125 -/
def spec_l5Inner.f (a0 : Int) : Option (Bool) := (spec_l5Start.f a0).bind fun t152 => (if t152 = true then (some true) else ((spec_l1Digit.f a0).bind fun t153 => (some t153)))
theorem spec_l5Inner.calls (a0 : Int) (r : Bool) (w : World) (h : spec_l5Inner.f a0 = some r) :
  Calls Tryz.prog 125 #[.int .u8 a0] w fun e w' => e = .returned (.bool r) ∧ Drawn0 w w' := by
 have H := h; unfold spec_l5Inner.f at H
 clear h; replace H := bnd_ H; obtain ⟨t152, A2, H⟩ := H; replace H := itb_ H; rcases H with ⟨rfl, H⟩ | ⟨rfl, H⟩
 ·obtain rfl := Option.some.inj H
  go_enter Tryz.func125, Tryz.ntmps125
  go_wp2_with (first | ((with_reducible refine gate_callee (f := 129) rfl ?_); refine gl_ (some 4) Tryz.func129 #[.int .u8 a0] ?_; (with_reducible refine (spec_l5Start.calls a0 true _ A2.out).mono ?_); rintro e w' ⟨rfl, ⟨nd, rfl⟩⟩; refine ⟨_, rfl, ?_⟩))
  go_ret
  exact dn_
 ·replace H := bnd_ H; obtain ⟨t153, A4, H⟩ := H; obtain rfl := Option.some.inj H
  go_enter Tryz.func125, Tryz.ntmps125
  go_wp2_with (first | ((with_reducible refine gate_callee (f := 129) rfl ?_); refine gl_ (some 4) Tryz.func129 #[.int .u8 a0] ?_; (with_reducible refine (spec_l5Start.calls a0 false _ A2.out).mono ?_); rintro e w' ⟨rfl, ⟨nd, rfl⟩⟩; refine ⟨_, rfl, ?_⟩) | (go_at_call 70; (with_reducible refine (spec_l1Digit.calls a0 t153 _ A4.out).mono ?_); rintro e w' ⟨rfl, ⟨nd, rfl⟩⟩))
  go_ret
  exact dn_

/-! ### spec_l5Run: function 110 -/
def spec_l5Run.l0 : Nat → ByteArray → Int → Option (Int)
 | 0, _, _ => none
 | k + 1, x0, x3 => if x3 < (x0.size : Int) then (if 0 ≤ x3 then ((spec_l5Inner.f (bt x0 x3)).bind fun t154 => (if t154 = true then (spec_l5Run.l0 k x0 (wrap64 (x3 + 1))) else (if x3 = 0 then (some 0) else (if 0 < (x0.size : Int) then ((spec_l1Digit.f (bt x0 0)).bind fun t155 => (if t155 = true then (some 0) else (if x3 > 30 then (some 0) else (some x3)))) else (none))))) else (none)) else (if x3 = 0 then (some 0) else (if 0 < (x0.size : Int) then ((spec_l1Digit.f (bt x0 0)).bind fun t156 => (if t156 = true then (some 0) else (if x3 > 30 then (some 0) else (some x3)))) else (none)))
def spec_l5Run.f (k : Nat) (a0 : ByteArray) : Option (Int) := spec_l5Run.l0 k a0 0
theorem spec_l5Run.calls (k : Nat) (a0 : ByteArray) (r : Int) (w : World) (h : spec_l5Run.f k a0 = some r) :
  Calls Tryz.prog 110 #[.string a0] w fun e w' => e = .returned (.int .i64 r) ∧ Drawn0 w w' := by
 have H := h; unfold spec_l5Run.f at H
 clear h; have H' := ak_ H; clear H; go_enter Tryz.func110, Tryz.ntmps110
 go_wp2; go_loopg [3] k (fun kq v3 w' => ∃ (x3_1 : Int), v3 = .int .i64 x3_1 ∧ Aside0 (spec_l5Run.l0 kq a0 x3_1 = some r) ∧ Aside0 (kq ≤ k) ∧ Drawn0 w w')
 case atStart => exact ⟨(0), sv_, H', ⟨Nat.le_refl _⟩, by repeat (first | exact Drawn0.refl _ | apply Drawn0.step)⟩
 case round =>
  clear H'; obtain ⟨x3_1, rfl, HA, HK1, ⟨m1, rfl⟩⟩ := hrel; cases gk with
  | zero => exact absurd HA.out (by simp [spec_l5Run.l0])
  | succ k1 =>
   have H := HA.out; clear HA; simp only [spec_l5Run.l0] at H
   replace H := ied_ H; rcases H with ⟨c2b0, H⟩ | ⟨c2b0, H⟩
   ·replace H := itd_ H; obtain ⟨c3b0, H⟩ := H; replace H := bnd_ H; obtain ⟨t154, A5, H⟩ := H; replace H := itb_ H; rcases H with ⟨rfl, H⟩ | ⟨rfl, H⟩
    ·have H' := ak_ H; clear H; have p4 : 0 ≤ (x3_1 : Int) := oda_
     have q4 : x3_1 < (a0.size : Int) := oda_
     have hx4 := bt_at a0 x3_1; replace p4 := eq_true p4; replace q4 := eq_true q4; go_wp2_with (first | (go_at_call 125; (with_reducible refine (spec_l5Inner.calls (bt a0 x3_1) true _ A5.out).mono ?_); rintro e w' ⟨rfl, ⟨nd, rfl⟩⟩))
     go_roundg k1
     case measure => have := HK1.out; omega
     case rel => exact ⟨(wrap64 (x3_1 + 1)), sv_, H', ⟨by have := HK1.out; omega⟩, by repeat (first | exact Drawn0.refl _ | apply Drawn0.step)⟩
    ·replace H := ite_ H; rcases H with ⟨c7, H⟩ | ⟨c7, H⟩
     ·have c7b0 := beq_iff_eq.mpr c7; have c7b1 := bne_eq_false_iff_eq.mpr c7; clear c7; obtain rfl := Option.some.inj H
      have p4 : 0 ≤ (x3_1 : Int) := oda_
      have q4 : x3_1 < (a0.size : Int) := oda_
      have hx4 := bt_at a0 x3_1; replace p4 := eq_true p4; replace q4 := eq_true q4; go_wp2_with (first | (go_at_call 125; (with_reducible refine (spec_l5Inner.calls (bt a0 x3_1) false _ A5.out).mono ?_); rintro e w' ⟨rfl, ⟨nd, rfl⟩⟩))
      go_ret
      exact dn_
     ·have c7b0 := beq_eq_false_iff_ne.mpr c7; have c7b1 := bne_iff_ne.mpr c7; replace H := itn_ H; obtain ⟨c8, H⟩ := H; have c8b0 := decide_eq_true c8; have c8b1 : decide (0 < a0.size) = true := decide_eq_true (by omega)
      clear c8; replace H := bnd_ H; obtain ⟨t155, A10, H⟩ := H; replace H := itb_ H; rcases H with ⟨rfl, H⟩ | ⟨rfl, H⟩
      ·obtain rfl := Option.some.inj H
       have p4 : 0 ≤ (x3_1 : Int) := oda_
       have q4 : x3_1 < (a0.size : Int) := oda_
       have hx4 := bt_at a0 x3_1; replace p4 := eq_true p4; replace q4 := eq_true q4; go_wp2_with (first | (go_at_call 125; (with_reducible refine (spec_l5Inner.calls (bt a0 x3_1) false _ A5.out).mono ?_); rintro e w' ⟨rfl, ⟨nd, rfl⟩⟩; have p9 : 0 ≤ (0 : Int) := (by omega); have q9 : 0 < a0.size := (by have : (0 : Int) < (a0.size : Int) := oda_; omega); have hx9 : ∀ h : 0 < a0.size, ((a0[0]'h).toNat : Int) = bt a0 0 := bt_at a0 0; clear p9; have qi9 : (0 < (a0.size : Int)) = True := eq_true (oda_); replace q9 := eq_true q9) | (go_at_call 70; (with_reducible refine (spec_l1Digit.calls (bt a0 0) true _ A10.out).mono ?_); rintro e w' ⟨rfl, ⟨nd, rfl⟩⟩))
       go_ret
       exact dn_
      ·replace H := ied_ H; rcases H with ⟨c12b0, H⟩ | ⟨c12b0, H⟩
       ·obtain rfl := Option.some.inj H
        have p4 : 0 ≤ (x3_1 : Int) := oda_
        have q4 : x3_1 < (a0.size : Int) := oda_
        have hx4 := bt_at a0 x3_1; replace p4 := eq_true p4; replace q4 := eq_true q4; go_wp2_with (first | (go_at_call 125; (with_reducible refine (spec_l5Inner.calls (bt a0 x3_1) false _ A5.out).mono ?_); rintro e w' ⟨rfl, ⟨nd, rfl⟩⟩; have p9 : 0 ≤ (0 : Int) := (by omega); have q9 : 0 < a0.size := (by have : (0 : Int) < (a0.size : Int) := oda_; omega); have hx9 : ∀ h : 0 < a0.size, ((a0[0]'h).toNat : Int) = bt a0 0 := bt_at a0 0; clear p9; have qi9 : (0 < (a0.size : Int)) = True := eq_true (oda_); replace q9 := eq_true q9) | (go_at_call 70; (with_reducible refine (spec_l1Digit.calls (bt a0 0) false _ A10.out).mono ?_); rintro e w' ⟨rfl, ⟨nd, rfl⟩⟩))
        go_ret
        exact dn_
       ·obtain rfl := Option.some.inj H
        have p4 : 0 ≤ (x3_1 : Int) := oda_
        have q4 : x3_1 < (a0.size : Int) := oda_
        have hx4 := bt_at a0 x3_1; replace p4 := eq_true p4; replace q4 := eq_true q4; go_wp2_with (first | (go_at_call 125; (with_reducible refine (spec_l5Inner.calls (bt a0 x3_1) false _ A5.out).mono ?_); rintro e w' ⟨rfl, ⟨nd, rfl⟩⟩; have p9 : 0 ≤ (0 : Int) := (by omega); have q9 : 0 < a0.size := (by have : (0 : Int) < (a0.size : Int) := oda_; omega); have hx9 : ∀ h : 0 < a0.size, ((a0[0]'h).toNat : Int) = bt a0 0 := bt_at a0 0; clear p9; have qi9 : (0 < (a0.size : Int)) = True := eq_true (oda_); replace q9 := eq_true q9) | (go_at_call 70; (with_reducible refine (spec_l1Digit.calls (bt a0 0) false _ A10.out).mono ?_); rintro e w' ⟨rfl, ⟨nd, rfl⟩⟩))
        go_ret
        exact dn_
   ·replace H := ite_ H; rcases H with ⟨c13, H⟩ | ⟨c13, H⟩
    ·have c13b0 := beq_iff_eq.mpr c13; have c13b1 := bne_eq_false_iff_eq.mpr c13; clear c13; obtain rfl := Option.some.inj H
     go_wp2; go_ret
     exact dn_
    ·have c13b0 := beq_eq_false_iff_ne.mpr c13; have c13b1 := bne_iff_ne.mpr c13; replace H := itn_ H; obtain ⟨c14, H⟩ := H; have c14b0 := decide_eq_true c14; have c14b1 : decide (0 < a0.size) = true := decide_eq_true (by omega)
     clear c14; replace H := bnd_ H; obtain ⟨t156, A16, H⟩ := H; replace H := itb_ H; rcases H with ⟨rfl, H⟩ | ⟨rfl, H⟩
     ·obtain rfl := Option.some.inj H
      have p15 : 0 ≤ (0 : Int) := (by omega)
      have q15 : 0 < a0.size := (by have : (0 : Int) < (a0.size : Int) := oda_; omega)
      have hx15 : ∀ h : 0 < a0.size, ((a0[0]'h).toNat : Int) = bt a0 0 := bt_at a0 0
      clear p15; have qi15 : (0 < (a0.size : Int)) = True := eq_true (oda_)
      replace q15 := eq_true q15; go_wp2_with (first | (go_at_call 70; (with_reducible refine (spec_l1Digit.calls (bt a0 0) true _ A16.out).mono ?_); rintro e w' ⟨rfl, ⟨nd, rfl⟩⟩))
      go_ret
      exact dn_
     ·replace H := ied_ H; rcases H with ⟨c18b0, H⟩ | ⟨c18b0, H⟩
      ·obtain rfl := Option.some.inj H
       have p15 : 0 ≤ (0 : Int) := (by omega)
       have q15 : 0 < a0.size := (by have : (0 : Int) < (a0.size : Int) := oda_; omega)
       have hx15 : ∀ h : 0 < a0.size, ((a0[0]'h).toNat : Int) = bt a0 0 := bt_at a0 0
       clear p15; have qi15 : (0 < (a0.size : Int)) = True := eq_true (oda_)
       replace q15 := eq_true q15; go_wp2_with (first | (go_at_call 70; (with_reducible refine (spec_l1Digit.calls (bt a0 0) false _ A16.out).mono ?_); rintro e w' ⟨rfl, ⟨nd, rfl⟩⟩))
       go_ret
       exact dn_
      ·obtain rfl := Option.some.inj H
       have p15 : 0 ≤ (0 : Int) := (by omega)
       have q15 : 0 < a0.size := (by have : (0 : Int) < (a0.size : Int) := oda_; omega)
       have hx15 : ∀ h : 0 < a0.size, ((a0[0]'h).toNat : Int) = bt a0 0 := bt_at a0 0
       clear p15; have qi15 : (0 < (a0.size : Int)) = True := eq_true (oda_)
       replace q15 := eq_true q15; go_wp2_with (first | (go_at_call 70; (with_reducible refine (spec_l1Digit.calls (bt a0 0) false _ A16.out).mono ?_); rintro e w' ⟨rfl, ⟨nd, rfl⟩⟩))
       go_ret
       exact dn_

/-! ### spec_l5Low: function 111 -/
def spec_l5Low.f (a0 : ByteArray) : Option ByteArray := if a0.size ≤ 9223372036854775807 then some (lowB a0) else none
theorem spec_l5Low.calls (a0 : ByteArray) (r : ByteArray) (w : World) (h : spec_l5Low.f a0 = some r) :
  Calls Tryz.prog 111 #[.string a0] w fun e w' => e = .returned (.string r) ∧ Below w.heap.size w w' := by
 unfold spec_l5Low.f at h
 by_cases hs : a0.size ≤ 9223372036854775807
 ·rw [if_pos hs] at h; obtain rfl := Option.some.inj h
  have HB := ak_ (Below.refl w.heap.size w); have hbl : (bytesOf a0).length = a0.size := bytesOf_length a0
  go_enter Tryz.func111, Tryz.ntmps111
  go_wp2_with (first | ((with_reducible refine gate_dst (N := 7) rfl ?_); refine low_conv_ 5 rfl (N := 7) rfl 9 74 _ rfl a0 rfl Tryz.underlying9 Tryz.underlying74 Tryz.underlying5 ?_; intro g1 w1 c1 hg1 hr1 hb1; have n0_ := ak_ (below_step bel_ hb1); have n1_ := ak_ (Nat.le_trans (below_size bel_) hg1); have n2_ := ak_ hr1; clear HB hg1 hr1 hb1; have HB := n0_; have HG := n1_; have HR := n2_; clear n0_ n1_ n2_))
  go_loopg [10] a0.size (fun kq v10 w' => ∃ i : Nat, v10 = .int .i64 (i : Int) ∧ Aside0 (i + kq = a0.size) ∧ Aside0 (LowRow g1 5 w' (lowMix (bytesOf a0) i)) ∧ Aside0 (Below w.heap.size w w'))
  case atStart => exact ⟨0, rfl, ⟨Nat.zero_add _⟩, ⟨by show LowRow _ _ _ _; have := HR.out; simpa [lowMix] using this⟩, ⟨bel_⟩⟩
  case round =>
   clear HB HR; obtain ⟨i, rfl, HK, HR, HB⟩ := hrel; cases gk with
   | zero =>
    have hik : i = a0.size := HK.out
    subst hik; have ci : decide (((a0.size : Nat) : Int) < (a0.size : Int)) = false := decide_eq_false (by omega)
    have hcv := string_of_reads (P := Tryz.prog) (c := c1) Tryz.underlying74 Tryz.underlying5 Tryz.underlying9 (low_reads HR.out (by rw [lowMix_len _ _ (by omega)]; exact hbl) hs)
    rw [show lowMix (bytesOf a0) a0.size = (bytesOf a0).map lowC from by rw [← hbl]; exact lowMix_all _] at hcv
    go_wp2; go_ret
    exact ⟨rfl, bel_⟩
   | succ k1 =>
    have hik : i < a0.size := by have := HK.out; omega
    have ci : decide ((i : Int) < (a0.size : Int)) = true := decide_eq_true (by omega)
    have hll : (lowMix (bytesOf a0) i).length = a0.size := by rw [lowMix_len _ _ (by omega)]; exact hbl
    obtain ⟨hx0, hf0⟩ := low_cell HR.out (i : Int) (by omega) (by omega); simp only [Int.toNat_natCast] at hx0 hf0
    have hxv := lowMix_at (bytesOf a0) i (by omega); rw [show rd (lowMix (bytesOf a0) i) (i : Int) = (bytesOf a0).getD i 0 from hxv] at hx0; have hst := lowMix_step (bytesOf a0) i (by omega); have hsm := lowMix_same (bytesOf a0) i (by omega); have hw1 : wrap64 ((i : Int) + 1) = ((i + 1 : Nat) : Int) := low_wrap i a0.size hik hs
    obtain ⟨x, hxe⟩ : ∃ x, (bytesOf a0).getD i 0 = x := ⟨_, rfl⟩
    rw [hxe] at hx0 hst hsm
    clear hxv hxe; have HS := ak_ hst; have HM := ak_ hsm; have HW := ak_ hw1; have HL := ak_ hll; clear hst hsm hw1 hll; have p9 := eq_true (show 0 ≤ (i : Int) by omega); have q9 := eq_true (show (i : Int) < (a0.size : Int) by omega); have same : lowC x = x → ∀ w', LowRow g1 5 w' (lowMix (bytesOf a0) i) → LowRow g1 5 w' (lowMix (bytesOf a0) (i + 1)) := fun hc w' hr => by rw [HM.out hc]; exact hr
    by_cases h1 : 65 ≤ x
    ·have d1 : decide (65 ≤ x) = true := decide_eq_true h1
     by_cases h2 : x ≤ 90
     ·have d2 : decide (x ≤ 90) = true := decide_eq_true h2
      have hlc : lowC x = (x + 32) % 256 := if_pos ⟨h1, h2⟩
      have hp0 := low_set HR.out (i : Int) (by omega) (by have := HL.out; omega) ((x + 32) % 256)
      simp only [Int.toNat_natCast] at hp0
      have HP := ak_ hp0; clear hp0 same h1 h2; go_wp2_with (first | ((with_reducible refine gate_store (t := 5) (p := 25) rfl ?_); refine store_event (t := 5) (p := 25) (v := ?vo_w11) (w1 := (wr.setCell ⟨g1, i, none⟩ (.int .u8 ((x + 32) % 256)))) ?hg ?ho ?hn ?hr ?_; (case ho => rfl); (case hg => rfl); (case hn => rfl); (case hr => first | (go_simp; done) | (go_simp; rfl)); intro w11 hw; have n_ := an2_ (show LowRow g1 5 w11 (lowMix (bytesOf a0) (i + 1)) from by rw [hw, HS.out, hlc]; exact HP.out) ((by rw [hw]; exact below_set (HB.out) HG.out : Below w.heap.size w w11)); clear HP HR HB; obtain ⟨HR, HB⟩ := n_; clear hw))
      go_roundg k1
      case measure => omega
      case rel => exact ⟨i + 1, (by first | rfl | exact congrArg (Value.int .i64) HW.out | exact congrArg (Value.int .i64) (by omega)), ⟨by have := HK.out; omega⟩, ⟨HR.out⟩, ⟨bel_⟩⟩
     ·have d2 : decide (x ≤ 90) = false := decide_eq_false h2
      have hr2 := ak_ (same (if_neg (fun hh => h2 hh.2)) _ HR.out); clear same h1 h2; go_wp2; go_roundg k1
      case measure => omega
      case rel => exact ⟨i + 1, (by first | rfl | exact congrArg (Value.int .i64) HW.out | exact congrArg (Value.int .i64) (by omega)), ⟨by have := HK.out; omega⟩, ⟨hr2.out⟩, ⟨bel_⟩⟩
    ·have d1 : decide (65 ≤ x) = false := decide_eq_false h1
     have hr2 := ak_ (same (if_neg (fun hh => h1 hh.1)) _ HR.out); clear same h1; go_wp2; go_roundg k1
     case measure => omega
     case rel => exact ⟨i + 1, (by first | rfl | exact congrArg (Value.int .i64) HW.out | exact congrArg (Value.int .i64) (by omega)), ⟨by have := HK.out; omega⟩, ⟨hr2.out⟩, ⟨bel_⟩⟩
 ·rw [if_neg hs] at h; cases h

/-! ### spec_l5Decl: function 89 -/
mutual
def spec_l5Decl.j0 : Nat → ByteArray → Bool → ByteArray → ByteArray → Bool → Option (ByteArray × ByteArray × Bool × Bool)
 | 0, _, _, _, _, _ => none
 | k + 1, x0, x29, x162000, x162001, x162002 => if x29 = true then (some ((⟨#[]⟩ : ByteArray), (⟨#[]⟩ : ByteArray), false, false)) else (if 1 ≤ (x0.size : Int) then ((spec_l5Trim.f k (x0.extract 1 x0.size)).bind fun t163 => (if (t163.size : Int) ≥ 10 then (if 0 ≤ (wrap64 ((t163.size : Int) - 10)) then (if (wrap64 ((t163.size : Int) - 10)) ≤ (t163.size : Int) then (spec_l5Decl.j1 k t163 ((t163.extract ((wrap64 ((t163.size : Int) - 10)) : Int).toNat t163.size).toList == ([33, 105, 109, 112, 111, 114, 116, 97, 110, 116] : List UInt8)) x162000 x162001 x162002) else (none)) else (none)) else (spec_l5Decl.j1 k t163 false x162000 x162001 x162002))) else (none))
def spec_l5Decl.j1 : Nat → ByteArray → Bool → ByteArray → ByteArray → Bool → Option (ByteArray × ByteArray × Bool × Bool)
 | 0, _, _, _, _, _ => none
 | k + 1, x0, x44, x162000, x162001, x162002 => if x44 = true then (if 0 ≤ (wrap64 ((x0.size : Int) - 10)) then (if (wrap64 ((x0.size : Int) - 10)) ≤ (x0.size : Int) then ((spec_l5Trim.f k (x0.extract 0 ((wrap64 ((x0.size : Int) - 10)) : Int).toNat)).bind fun t164 => ((spec_l1In.f (t164.size : Int) 1 60).bind fun t165 => (some (x162000, t164, true, t165)))) else (none)) else (none)) else ((spec_l1In.f (x0.size : Int) 1 60).bind fun t166 => (some (x162000, x0, x162002, t166)))
end
def spec_l5Decl.f (k : Nat) (a0 : ByteArray) : Option (ByteArray × ByteArray × Bool × Bool) := (spec_l5Trim.f k a0).bind fun t158 => ((spec_l5Run.f k t158).bind fun t159 => (if t159 = 0 then (some ((⟨#[]⟩ : ByteArray), (⟨#[]⟩ : ByteArray), false, false)) else (if 0 ≤ t159 then (if t159 ≤ (t158.size : Int) then ((spec_l5Low.f (t158.extract 0 (t159 : Int).toNat)).bind fun t160 => ((spec_l5Trim.f k (t158.extract (t159 : Int).toNat t158.size)).bind fun t162 => (if (t162.size : Int) = 0 then (spec_l5Decl.j0 k t162 true t160 (⟨#[]⟩ : ByteArray) false) else (if 0 < (t162.size : Int) then (spec_l5Decl.j0 k t162 ((bt t162 0) != 58) t160 (⟨#[]⟩ : ByteArray) false) else (none))))) else (none)) else (none))))
theorem spec_l5Decl.calls (k : Nat) (a0 : ByteArray) (r1 : ByteArray) (r2 : ByteArray) (r3 : Bool) (r4 : Bool) (w : World) (h : spec_l5Decl.f k a0 = some (r1, r2, r3, r4)) :
  Calls Tryz.prog 89 #[.string a0] w fun e w' => e = .returned (.tuple #[.agg #[.string r1, .string r2, .bool r3], .bool r4]) ∧ Below w.heap.size w w' := by
 have hu80 := Tryz.underlying80; have HB := ak_ (Below.refl w.heap.size w); have H := h; unfold spec_l5Decl.f at H
 clear h; replace H := bnd_ H; obtain ⟨t158, A2, H⟩ := H; replace H := bnd_ H; obtain ⟨t159, A3, H⟩ := H; replace H := ite_ H; rcases H with ⟨c4, H⟩ | ⟨c4, H⟩
 ·have c4b0 := beq_iff_eq.mpr c4; have c4b1 := bne_eq_false_iff_eq.mpr c4; clear c4; simp only [Option.some.injEq, Prod.mk.injEq] at H
  obtain ⟨rfl, rfl, rfl, rfl⟩ := H; go_enter Tryz.func89, Tryz.ntmps89
  go_wp2_with (first | ((with_reducible refine gate_dst (N := 2) rfl ?_); (try (refine gate_guard (by rfl) ?_; dsimp only)); refine bx_ (N := 2) (cs := #[.string (⟨#[]⟩ : ByteArray), .string (⟨#[]⟩ : ByteArray), .bool false]) (t := 80) ?_; intro gb157 hg w5 hbox hb; have n_ := an4_ (below_step bel_ hb) (hbox) (gsl_ hg HB.out) (gsl_ hg HB.out); clear HB; obtain ⟨HB, BK157, GW157, GE157⟩ := n_; clear hb hbox hg) | ((with_reducible refine gate_callee (f := 109) rfl ?_); refine gl_ (some 7) Tryz.func109 #[.string a0] ?_; (with_reducible refine (spec_l5Trim.calls k a0 t158 _ A2.out).mono ?_); rintro e w' ⟨rfl, ⟨nd, rfl⟩⟩; refine ⟨_, rfl, ?_⟩; (try (rw [drewN_self w5]; generalize hq_ : World.drewN w5 _ = w5; have n0_ : Aside0 (w5.heap[gb157]? = some (.cells #[.string (⟨#[]⟩ : ByteArray), .string (⟨#[]⟩ : ByteArray), .bool false] 80 (0, 0))) := ⟨by rw [← hq_]; exact (bk_ BK157.out)⟩; have n1_ : Aside0 (Below w.heap.size w w5) := ⟨by rw [← hq_]; exact bes_⟩; clear BK157 HB hq_; have BK157 := n0_; have HB := n1_; clear n0_ n1_))) | ((with_reducible refine gate_callee (f := 110) rfl ?_); refine gl_ (some 9) Tryz.func110 #[.string t158] ?_; (with_reducible refine (spec_l5Run.calls k t158 t159 _ A3.out).mono ?_); rintro e w' ⟨rfl, ⟨nd, rfl⟩⟩; refine ⟨_, rfl, ?_⟩; (try (rw [drewN_self w5]; generalize hq_ : World.drewN w5 _ = w5; have n0_ : Aside0 (w5.heap[gb157]? = some (.cells #[.string (⟨#[]⟩ : ByteArray), .string (⟨#[]⟩ : ByteArray), .bool false] 80 (0, 0))) := ⟨by rw [← hq_]; exact (bk_ BK157.out)⟩; have n1_ : Aside0 (Below w.heap.size w w5) := ⟨by rw [← hq_]; exact bes_⟩; clear BK157 HB hq_; have BK157 := n0_; have HB := n1_; clear n0_ n1_)); obtain ⟨z6_0, z6_1, z6_2, y6_0, y6_1, y6_2⟩ := bcz3 BK157.out))
  refine bodyPost_ret (results_ct rfl _ _ gb157 80 #[.string (⟨#[]⟩ : ByteArray), .string (⟨#[]⟩ : ByteArray), .bool false] (0, 0) _ rfl (bp_ BK157.out) Tryz.underlying80 rfl (by kernel_rfl)) rfl ?_
  exact ⟨er_, bes_⟩
 ·have c4b0 := beq_eq_false_iff_ne.mpr c4; have c4b1 := bne_iff_ne.mpr c4; replace H := itn_ H; obtain ⟨c7, H⟩ := H; have c7b0 := eq_true c7; have c7b1 := decide_eq_true c7; clear c7; replace H := itn_ H; obtain ⟨c8, H⟩ := H; have c8b0 := eq_true c8; have c8b1 := decide_eq_true c8; clear c8; replace H := bnd_ H; obtain ⟨t160, A9, H⟩ := H; have c10b0 := eq_true (oda_ : 0 ≤ t159); have c11b0 := eq_true (oda_ : t159 ≤ (t158.size : Int)); replace H := bnd_ H; obtain ⟨t162, A12, H⟩ := H; have HC13 := ak_ H; clear H; go_enter Tryz.func89, Tryz.ntmps89
  go_upto_region 7 with (first | ((with_reducible refine gate_dst (N := 2) rfl ?_); (try (refine gate_guard (by rfl) ?_; dsimp only)); refine bx_ (N := 2) (cs := #[.string (⟨#[]⟩ : ByteArray), .string (⟨#[]⟩ : ByteArray), .bool false]) (t := 80) ?_; intro gb157 hg w14 hbox hb; have n_ := an4_ (below_step bel_ hb) (hbox) (gsl_ hg HB.out) (gsl_ hg HB.out); clear HB; obtain ⟨HB, BK157, GW157, GE157⟩ := n_; clear hb hbox hg) | ((with_reducible refine gate_callee (f := 109) rfl ?_); refine gl_ (some 7) Tryz.func109 #[.string a0] ?_; (with_reducible refine (spec_l5Trim.calls k a0 t158 _ A2.out).mono ?_); rintro e w' ⟨rfl, ⟨nd, rfl⟩⟩; refine ⟨_, rfl, ?_⟩; (try (rw [drewN_self w14]; generalize hq_ : World.drewN w14 _ = w14; have n0_ : Aside0 (w14.heap[gb157]? = some (.cells #[.string (⟨#[]⟩ : ByteArray), .string (⟨#[]⟩ : ByteArray), .bool false] 80 (0, 0))) := ⟨by rw [← hq_]; exact (bk_ BK157.out)⟩; have n1_ : Aside0 (Below w.heap.size w w14) := ⟨by rw [← hq_]; exact bes_⟩; clear BK157 HB hq_; have BK157 := n0_; have HB := n1_; clear n0_ n1_))) | ((with_reducible refine gate_callee (f := 110) rfl ?_); refine gl_ (some 9) Tryz.func110 #[.string t158] ?_; (with_reducible refine (spec_l5Run.calls k t158 t159 _ A3.out).mono ?_); rintro e w' ⟨rfl, ⟨nd, rfl⟩⟩; refine ⟨_, rfl, ?_⟩; (try (rw [drewN_self w14]; generalize hq_ : World.drewN w14 _ = w14; have n0_ : Aside0 (w14.heap[gb157]? = some (.cells #[.string (⟨#[]⟩ : ByteArray), .string (⟨#[]⟩ : ByteArray), .bool false] 80 (0, 0))) := ⟨by rw [← hq_]; exact (bk_ BK157.out)⟩; have n1_ : Aside0 (Below w.heap.size w w14) := ⟨by rw [← hq_]; exact bes_⟩; clear BK157 HB hq_; have BK157 := n0_; have HB := n1_; clear n0_ n1_))) | ((with_reducible refine gate_callee (f := 111) rfl ?_); refine gl_ (some 16) Tryz.func111 #[.string (t158.extract 0 (t159 : Int).toNat)] ?_; (with_reducible refine (spec_l5Low.calls (t158.extract 0 (t159 : Int).toNat) t160 _ A9.out).mono ?_); rintro e w15 ⟨rfl, hb⟩; refine ⟨_, rfl, ?_⟩; have n_ := an2_ (blk_below (g := gb157) (o := .cells #[.string (⟨#[]⟩ : ByteArray), .string (⟨#[]⟩ : ByteArray), .bool false] 80 (0, 0)) (bk_ BK157.out) hb) (below_step bes_ hb); clear BK157 HB; obtain ⟨BK157, HB⟩ := n_; (try clear hb);(try clear hb2);(try clear hk);(try clear hi)) | ((with_reducible refine gate_dst (N := 5) rfl ?_); (try (refine gate_guard (by rfl) ?_; dsimp only)); refine bx_ (N := 5) (cs := #[.string (⟨#[]⟩ : ByteArray), .string (⟨#[]⟩ : ByteArray), .bool false]) (t := 80) ?_; intro gb161 hg w16 hbox hb; have n_ := an7_ (blk_below (g := gb157) (o := .cells #[.string (⟨#[]⟩ : ByteArray), .string (⟨#[]⟩ : ByteArray), .bool false] 80 (0, 0)) (bk_ BK157.out) hb) (below_step bes_ hb) (hbox) (gsl_ hg HB.out) (gsl_ hg HB.out) ((by rw [hg]; exact Nat.ne_of_lt (blk_lt (g := gb157) (o := .cells #[.string (⟨#[]⟩ : ByteArray), .string (⟨#[]⟩ : ByteArray), .bool false] 80 (0, 0)) (bk_ BK157.out)) : gb157 ≠ gb161)) ((by rw [hg]; exact Nat.ne_of_gt (blk_lt (g := gb157) (o := .cells #[.string (⟨#[]⟩ : ByteArray), .string (⟨#[]⟩ : ByteArray), .bool false] 80 (0, 0)) (bk_ BK157.out)) : gb161 ≠ gb157)); clear BK157 HB; obtain ⟨BK157, HB, BK161, GW161, GE161, NB157_161, NB161_157⟩ := n_; clear hb hbox hg; have hnb17 := NB161_157.out; have hnc17 := NB157_161.out; obtain ⟨z18_0, z18_1, z18_2, y18_0, y18_1, y18_2⟩ := bcz3 BK161.out) | ((with_reducible refine gate_callee (f := 109) rfl ?_); refine gl_ (some 21) Tryz.func109 #[.string (t158.extract (t159 : Int).toNat t158.size)] ?_; (with_reducible refine (spec_l5Trim.calls k (t158.extract (t159 : Int).toNat t158.size) t162 _ A12.out).mono ?_); rintro e w' ⟨rfl, ⟨nd, rfl⟩⟩; refine ⟨_, rfl, ?_⟩))
  (try simp only [Act.put, List.setIfInBounds_toArray, List.set_cons_zero, List.set_cons_succ])
  go_cut [29] (fun v29 wc => ∃ (kq : Nat) (x29_12 : Bool), v29 = .bool x29_12 ∧ Aside0 (spec_l5Decl.j0 kq t162 x29_12 t160 (⟨#[]⟩ : ByteArray) false = some (r1, r2, r3, r4)) ∧ Aside0 (kq ≤ k) ∧ Aside0 (wc.heap[gb157]? = some (.cells #[.string (⟨#[]⟩ : ByteArray), .string (⟨#[]⟩ : ByteArray), .bool false] 80 (0, 0))) ∧ Aside0 (wc.heap[gb161]? = some (.cells #[.string t160, .string (⟨#[]⟩ : ByteArray), .bool false] 80 (0, 0))) ∧ Aside0 (Below w.heap.size w wc))
  case first =>
   have H := HC13.out; clear HC13; replace H := ite_ H; rcases H with ⟨c19, H⟩ | ⟨c19, H⟩
   ·have c19b0 := beq_iff_eq.mpr c19; have c19b1 := bne_eq_false_iff_eq.mpr c19; clear c19; (first | rw [c19b0] | (simp only [i64_w, i32_w]; rw [c19b0]) | skip)
    have H' := ak_ H; clear H; go_wp2; go_meet
    case rel => exact ⟨_, (true), sv_, H', ⟨by first | omega | exact Nat.le_refl _⟩, ⟨bp_ BK157.out⟩, ⟨bp_ BK161.out⟩, ⟨bes_⟩⟩
   ·have c19b0 := beq_eq_false_iff_ne.mpr c19; have c19b1 := bne_iff_ne.mpr c19; (first | rw [c19b0] | (simp only [i64_w, i32_w]; rw [c19b0]) | skip)
    replace H := itn_ H; obtain ⟨c20, H⟩ := H; have c20b0 := decide_eq_true c20; have c20b1 : decide (0 < t162.size) = true := decide_eq_true (by omega)
    clear c20; have H' := ak_ H; clear H; have p21 : 0 ≤ (0 : Int) := (by omega)
    have q21 : 0 < t162.size := (by have : (0 : Int) < (t162.size : Int) := oda_; omega)
    have hx21 : ∀ h : 0 < t162.size, ((t162[0]'h).toNat : Int) = bt t162 0 := bt_at t162 0
    clear p21; have qi21 : (0 < (t162.size : Int)) = True := eq_true (oda_)
    replace q21 := eq_true q21; go_wp2; go_meet
    case rel => exact ⟨_, (((bt t162 0) != 58)), sv_, H', ⟨by first | omega | exact Nat.le_refl _⟩, ⟨bp_ BK157.out⟩, ⟨bp_ BK161.out⟩, ⟨bes_⟩⟩
  case rest =>
   clear HC13; (try clear c4);(try clear c4b0);(try clear c4b1);(try clear c7b0);(try clear c7b1);(try clear c8b0);(try clear c8b1);(try clear c10b0);(try clear c11b0);(try clear z18_0);(try clear z18_1);(try clear z18_2);(try clear y18_0);(try clear y18_1);(try clear y18_2)
   obtain ⟨kq, x29_12, rfl, HA, HJ12, BK157, BK161, HB⟩ := hcut; cases kq with
   | zero => exact absurd HA.out (by simp [spec_l5Decl.j0])
   | succ kj12 =>
    have H := HA.out; clear HA; simp only [spec_l5Decl.j0] at H
    replace H := itb_ H; rcases H with ⟨rfl, H⟩ | ⟨rfl, H⟩
    ·simp only [Option.some.injEq, Prod.mk.injEq] at H
     obtain ⟨rfl, rfl, rfl, rfl⟩ := H; have hnb23 := NB157_161.out; have hnc23 := NB161_157.out; obtain ⟨z24_0, z24_1, z24_2, y24_0, y24_1, y24_2⟩ := bcz3 BK157.out; go_wp2; refine bodyPost_ret (results_ct rfl _ _ gb157 80 #[.string (⟨#[]⟩ : ByteArray), .string (⟨#[]⟩ : ByteArray), .bool false] (0, 0) _ rfl (bp_ BK157.out) Tryz.underlying80 rfl (by kernel_rfl)) rfl ?_
     exact ⟨er_, bes_⟩
    ·replace H := itn_ H; obtain ⟨c25, H⟩ := H; have c25b0 := eq_true c25; have c25b1 := decide_eq_true c25; clear c25; replace H := bnd_ H; obtain ⟨t163, A26, H⟩ := H; have HC27 := ak_ H; clear H; go_upto_region 10 with (first | ((with_reducible refine gate_callee (f := 109) rfl ?_); refine gl_ (some 33) Tryz.func109 #[.string (t162.extract 1 t162.size)] ?_; (with_reducible refine (spec_l5Trim.calls kj12 (t162.extract 1 t162.size) t163 _ A26.out).mono ?_); rintro e w' ⟨rfl, ⟨nd, rfl⟩⟩; refine ⟨_, rfl, ?_⟩))
     (try simp only [Act.put, List.setIfInBounds_toArray, List.set_cons_zero, List.set_cons_succ])
     go_cut [44] (fun v44 wc => ∃ (kq : Nat) (x44_26 : Bool), v44 = .bool x44_26 ∧ Aside0 (spec_l5Decl.j1 kq t163 x44_26 t160 (⟨#[]⟩ : ByteArray) false = some (r1, r2, r3, r4)) ∧ Aside0 (kq ≤ kj12) ∧ Aside0 (wc.heap[gb157]? = some (.cells #[.string (⟨#[]⟩ : ByteArray), .string (⟨#[]⟩ : ByteArray), .bool false] 80 (0, 0))) ∧ Aside0 (wc.heap[gb161]? = some (.cells #[.string t160, .string (⟨#[]⟩ : ByteArray), .bool false] 80 (0, 0))) ∧ Aside0 (Below w.heap.size w wc))
     case first =>
      have H := HC27.out; clear HC27; replace H := ite_ H; rcases H with ⟨c28, H⟩ | ⟨c28, H⟩
      ·have c28b0 := decide_eq_true c28; have c28b1 : decide (10 ≤ t163.size) = true := decide_eq_true (by omega)
       clear c28; (first | rw [c28b0] | (simp only [i64_w, i32_w]; rw [c28b0]) | skip)
       obtain ⟨ji29, hji29⟩ : ∃ j_ : Int, (wrap64 ((t163.size : Int) - 10)) = j_ := ⟨_, rfl⟩
       replace H : (if 0 ≤ (ji29) then (if (ji29) ≤ (t163.size : Int) then (spec_l5Decl.j1 kj12 t163 ((t163.extract ((ji29) : Int).toNat t163.size).toList == ([33, 105, 109, 112, 111, 114, 116, 97, 110, 116] : List UInt8)) t160 (⟨#[]⟩ : ByteArray) false) else (none)) else (none)) = some (r1, r2, r3, r4) := by first | (rw [hji29] at H; exact H) | (simp only [hji29] at H ⊢; exact H)
       have hji29w : (IntKind.i64.wrap ((t163.size : Int) - 10)) = ji29 := (i64_w _).trans hji29
       replace H := itn_ H; obtain ⟨c30, H⟩ := H; have c30b0 := eq_true c30; have c30b1 := decide_eq_true c30; clear c30; replace H := itn_ H; obtain ⟨c31, H⟩ := H; have c31b0 := eq_true c31; have c31b1 := decide_eq_true c31; clear c31; have H' := ak_ H; clear H; go_wp2; go_meet
       case rel => exact ⟨_, (((t163.extract ((ji29) : Int).toNat t163.size).toList == ([33, 105, 109, 112, 111, 114, 116, 97, 110, 116] : List UInt8))), (by first | rfl | (simp; done) | (simp only [← hji29] <;> (first | rfl | simp)) | (simp [*]; done)), H', ⟨by have := HJ12.out; first | omega | exact Nat.le_refl _⟩, ⟨bp_ BK157.out⟩, ⟨bp_ BK161.out⟩, ⟨bes_⟩⟩
      ·have c28b0 := decide_eq_false c28; have c28b1 : decide (10 ≤ t163.size) = false := decide_eq_false (by omega)
       clear c28; (first | rw [c28b0] | (simp only [i64_w, i32_w]; rw [c28b0]) | skip)
       have H' := ak_ H; clear H; go_wp2; go_meet
       case rel => exact ⟨_, (false), sv_, H', ⟨by have := HJ12.out; first | omega | exact Nat.le_refl _⟩, ⟨bp_ BK157.out⟩, ⟨bp_ BK161.out⟩, ⟨bes_⟩⟩
     case rest =>
      clear HC27; (try clear c4);(try clear c4b0);(try clear c4b1);(try clear c7b0);(try clear c7b1);(try clear c8b0);(try clear c8b1);(try clear c10b0);(try clear c11b0);(try clear c25b0);(try clear c25b1);(try clear z18_0);(try clear z18_1);(try clear z18_2)
      (try clear y18_0);(try clear y18_1);(try clear y18_2)
      obtain ⟨kq, x44_26, rfl, HA, HJ26, BK157, BK161, HB⟩ := hcut; cases kq with
      | zero => exact absurd HA.out (by simp [spec_l5Decl.j1])
      | succ kj26 =>
       have H := HA.out; clear HA; simp only [spec_l5Decl.j1] at H
       replace H := itb_ H; rcases H with ⟨rfl, H⟩ | ⟨rfl, H⟩
       ·obtain ⟨ji33, hji33⟩ : ∃ j_ : Int, (wrap64 ((t163.size : Int) - 10)) = j_ := ⟨_, rfl⟩
        replace H : (if 0 ≤ (ji33) then (if (ji33) ≤ (t163.size : Int) then ((spec_l5Trim.f kj26 (t163.extract 0 ((ji33) : Int).toNat)).bind fun t164 => ((spec_l1In.f (t164.size : Int) 1 60).bind fun t165 => (some (t160, t164, true, t165)))) else (none)) else (none)) = some (r1, r2, r3, r4) := by first | (rw [hji33] at H; exact H) | (simp only [hji33] at H ⊢; exact H)
        have hji33w : (IntKind.i64.wrap ((t163.size : Int) - 10)) = ji33 := (i64_w _).trans hji33
        replace H := itn_ H; obtain ⟨c34, H⟩ := H; have c34b0 := eq_true c34; have c34b1 := decide_eq_true c34; clear c34; replace H := itn_ H; obtain ⟨c35, H⟩ := H; have c35b0 := eq_true c35; have c35b1 := decide_eq_true c35; clear c35; replace H := bnd_ H; obtain ⟨t164, A36, H⟩ := H; replace H := bnd_ H; obtain ⟨t165, A37, H⟩ := H; simp only [Option.some.injEq, Prod.mk.injEq] at H
        obtain ⟨rfl, rfl, rfl, rfl⟩ := H; have hnb38 := NB161_157.out; have hnc38 := NB157_161.out; obtain ⟨z39_0, z39_1, z39_2, y39_0, y39_1, y39_2⟩ := bcz3 BK161.out; try go_wp2_with (first | ((with_reducible refine gate_callee (f := 109) rfl ?_); refine goesL_ (some 51) rfl rfl Tryz.func109 (by kernel_rfl) rfl #[.string (t163.extract 0 ((ji33) : Int).toNat)] rfl (by (try simp only [List.map_toArray, List.map_cons, List.map_nil]); first | done | (simp only [hji33]; rfl) | rfl | (simp only [List.length_drop, List.length_take]; rfl)) ?_; (with_reducible refine (spec_l5Trim.calls kj26 (t163.extract 0 ((ji33) : Int).toNat) t164 _ A36.out).mono ?_); rintro e w' ⟨rfl, ⟨nd, rfl⟩⟩; refine ⟨_, rfl, ?_⟩))
        have n0_ : Aside0 (((wc.setCell ⟨gb161, 2, none⟩ (.bool true)).setCell ⟨gb161, 1, none⟩ (.string t164)).heap[gb157]? = some (.cells #[.string (⟨#[]⟩ : ByteArray), .string (⟨#[]⟩ : ByteArray), .bool false] 80 (0, 0))) := ⟨bp_ BK157.out⟩
        have n1_ : Aside0 (((wc.setCell ⟨gb161, 2, none⟩ (.bool true)).setCell ⟨gb161, 1, none⟩ (.string t164)).heap[gb161]? = some (.cells #[.string t160, .string t164, .bool true] 80 (0, 0))) := ⟨bp_ BK161.out⟩
        have n2_ : Aside0 (Below w.heap.size w ((wc.setCell ⟨gb161, 2, none⟩ (.bool true)).setCell ⟨gb161, 1, none⟩ (.string t164))) := ⟨bes_⟩
        (try clear BK157)
        (try clear BK161)
        (try clear HB)
        (try rw [show ∀ (w_ : World) (n_ : Nat) (a_ : Addr) (v_ : Value), (w_.drewN n_).setCell a_ v_ = (w_.setCell a_ v_).drewN n_ from fun _ _ _ _ => rfl])
        generalize ((wc.setCell ⟨gb161, 2, none⟩ (.bool true)).setCell ⟨gb161, 1, none⟩ (.string t164)) = w40 at n0_ n1_ n2_ ⊢
        have BK157 := n0_; have BK161 := n1_; have HB := n2_; clear n0_ n1_ n2_; (try (rw [drewN_self w40]; generalize hq_ : World.drewN w40 _ = w40; have n0_ : Aside0 (w40.heap[gb157]? = some (.cells #[.string (⟨#[]⟩ : ByteArray), .string (⟨#[]⟩ : ByteArray), .bool false] 80 (0, 0))) := ⟨by rw [← hq_]; exact (bk_ BK157.out)⟩; have n1_ : Aside0 (w40.heap[gb161]? = some (.cells #[.string t160, .string t164, .bool true] 80 (0, 0))) := ⟨by rw [← hq_]; exact (bk_ BK161.out)⟩; have n2_ : Aside0 (Below w.heap.size w w40) := ⟨by rw [← hq_]; exact bes_⟩; clear BK157 BK161 HB hq_; have BK157 := n0_; have BK161 := n1_; have HB := n2_; clear n0_ n1_ n2_))
        have n_ := an3_ (blk_drew BK157.out) (blk_drew BK161.out) (below_drew1 HB.out); clear BK157 BK161 HB; obtain ⟨BK157, BK161, HB⟩ := n_; refine start_ (n := 6) (S := fun w' => w'.cell? ⟨gb161, 0, none⟩ = some (.string t160) ∧ w'.cell? ⟨gb161, 1, none⟩ = some (.string t164) ∧ w'.cell? ⟨gb161, 2, none⟩ = some (.bool true)) (ds := []) #[false, false, false, false, false, false] (by kernel_rfl) rfl rfl ⟨(blk_cell BK161.out 0).trans rfl, (blk_cell BK161.out 1).trans rfl, (blk_cell BK161.out 2).trans rfl⟩ (fun hHeld => ?_)
        generalize w40.drew = w41 at BK157 BK161 HB hHeld ⊢
        refine tkp_ 1 (some 55) #[false, true, false, false, false, false] (by kernel_rfl) ?_
        refine tkp_ 2 (some 56) #[false, true, true, false, false, false] (by kernel_rfl) ?_
        refine tkt_ 0 (some 54) #[true, true, true, false, false, false] (by kernel_rfl) hHeld ?_
        refine one_ (i := 3) (N := some 57) #[true, true, true, true, false, false] rfl rfl (by kernel_rfl) (by decide) (fun K hK => ?_)
        refine goes_ Tryz.func29 (by kernel_rfl) rfl #[.int .i64 (t164.size : Int), .int .i64 1, .int .i64 60] (by rfl) rfl rfl au_ ?_
        with_reducible refine (spec_l1In.calls (t164.size : Int) 1 60 t165 _ A37.out).mono ?_
        rintro e w' ⟨rfl, ⟨nd, rfl⟩⟩; refine ⟨_, rfl, ?_⟩
        refine hK.out _ _ ⟨(blk_cell BK161.out 0).trans rfl, (blk_cell BK161.out 1).trans rfl, (blk_cell BK161.out 2).trans rfl⟩ (fun hHeld => ?_)
        clear hK K; refine norm_ (a' := ?_) ?_ ?_
        rotate_left
        ·show Act.put _ (some 57) _ = _
         simp only [Act.put, List.setIfInBounds_toArray, List.set_cons_zero, List.set_cons_succ, i64_w, i32_w]
         rfl
        refine one_ (i := 4) (N := none) #[true, true, true, true, true, false] rfl rfl (by kernel_rfl) (by decide) (fun K hK => ?_)
        have hs42 : w41.cell? ⟨gb157, 0, none⟩ = some (.string (⟨#[]⟩ : ByteArray)) := (blk_cell BK157.out 0).trans rfl
        have hfs42 := blk_frozen BK157.out 0; have hns42_1 := NB161_157.out; have hms42_1 := NB157_161.out; have hs43 : w41.cell? ⟨gb157, 1, none⟩ = some (.string (⟨#[]⟩ : ByteArray)) := (blk_cell BK157.out 1).trans rfl
        have hfs43 := blk_frozen BK157.out 1; have hns43_1 := NB161_157.out; have hms43_1 := NB157_161.out; have hs44 : w41.cell? ⟨gb157, 2, none⟩ = some (.bool false) := (blk_cell BK157.out 2).trans rfl
        have hfs44 := blk_frozen BK157.out 2; have hns44_1 := NB161_157.out; have hms44_1 := NB157_161.out; refine skip_ (w1 := ?_) (by rfl) rfl ?_ ?_
        rotate_left
        ·go_simp
         rfl
        refine hK.out _ _ ⟨((cell_far (p := ⟨gb157, _, none⟩) NB161_157.out _).trans (((cell_far (p := ⟨gb157, _, none⟩) NB161_157.out _).trans (((cell_far (p := ⟨gb157, _, none⟩) NB161_157.out _).trans (hHeld.1)))))), ((cell_far (p := ⟨gb157, _, none⟩) NB161_157.out _).trans (((cell_far (p := ⟨gb157, _, none⟩) NB161_157.out _).trans (((cell_far (p := ⟨gb157, _, none⟩) NB161_157.out _).trans (hHeld.2.1)))))), ((cell_far (p := ⟨gb157, _, none⟩) NB161_157.out _).trans (((cell_far (p := ⟨gb157, _, none⟩) NB161_157.out _).trans (((cell_far (p := ⟨gb157, _, none⟩) NB161_157.out _).trans (hHeld.2.2))))))⟩ (fun hHeld => ?_)
        clear hK K; refine tkp_ 5 (some 3) #[true, true, true, true, true, true] (by kernel_rfl) ?_
        refine done_ (by kernel_rfl) ?_
        try go_wp2
        refine bodyPost_ret (results_ct rfl _ _ gb157 80 #[.string t160, .string t164, .bool true] (0, 0) _ rfl (bp_ BK157.out) Tryz.underlying80 rfl (by kernel_rfl)) rfl ?_
        exact ⟨by first | rfl | (simp [errW_none, errW_some] <;> rfl) | (simp only [← hji33]; first | rfl | (simp [errW_none, errW_some] <;> rfl)) | (simp [*, errW_none, errW_some] <;> rfl), bes_⟩
       ·replace H := bnd_ H; obtain ⟨t166, A45, H⟩ := H; simp only [Option.some.injEq, Prod.mk.injEq] at H
        obtain ⟨rfl, rfl, rfl, rfl⟩ := H; have hnb46 := NB161_157.out; have hnc46 := NB157_161.out; obtain ⟨z47_0, z47_1, z47_2, y47_0, y47_1, y47_2⟩ := bcz3 BK161.out; try go_wp2
        have n0_ : Aside0 ((wc.setCell ⟨gb161, 1, none⟩ (.string t163)).heap[gb157]? = some (.cells #[.string (⟨#[]⟩ : ByteArray), .string (⟨#[]⟩ : ByteArray), .bool false] 80 (0, 0))) := ⟨bp_ BK157.out⟩
        have n1_ : Aside0 ((wc.setCell ⟨gb161, 1, none⟩ (.string t163)).heap[gb161]? = some (.cells #[.string t160, .string t163, .bool false] 80 (0, 0))) := ⟨bp_ BK161.out⟩
        have n2_ : Aside0 (Below w.heap.size w (wc.setCell ⟨gb161, 1, none⟩ (.string t163))) := ⟨bes_⟩
        (try clear BK157)
        (try clear BK161)
        (try clear HB)
        (try rw [show ∀ (w_ : World) (n_ : Nat) (a_ : Addr) (v_ : Value), (w_.drewN n_).setCell a_ v_ = (w_.setCell a_ v_).drewN n_ from fun _ _ _ _ => rfl])
        generalize (wc.setCell ⟨gb161, 1, none⟩ (.string t163)) = w48 at n0_ n1_ n2_ ⊢
        have BK157 := n0_; have BK161 := n1_; have HB := n2_; clear n0_ n1_ n2_; have n_ := an3_ (blk_drew BK157.out) (blk_drew BK161.out) (below_drew1 HB.out); clear BK157 BK161 HB; obtain ⟨BK157, BK161, HB⟩ := n_; refine start_ (n := 6) (S := fun w' => w'.cell? ⟨gb161, 0, none⟩ = some (.string t160) ∧ w'.cell? ⟨gb161, 1, none⟩ = some (.string t163) ∧ w'.cell? ⟨gb161, 2, none⟩ = some (.bool false)) (ds := []) #[false, false, false, false, false, false] (by kernel_rfl) rfl rfl ⟨(blk_cell BK161.out 0).trans rfl, (blk_cell BK161.out 1).trans rfl, (blk_cell BK161.out 2).trans rfl⟩ (fun hHeld => ?_)
        generalize w48.drew = w49 at BK157 BK161 HB hHeld ⊢
        refine tkp_ 1 (some 55) #[false, true, false, false, false, false] (by kernel_rfl) ?_
        refine tkp_ 2 (some 56) #[false, true, true, false, false, false] (by kernel_rfl) ?_
        refine tkt_ 0 (some 54) #[true, true, true, false, false, false] (by kernel_rfl) hHeld ?_
        refine one_ (i := 3) (N := some 57) #[true, true, true, true, false, false] rfl rfl (by kernel_rfl) (by decide) (fun K hK => ?_)
        refine goes_ Tryz.func29 (by kernel_rfl) rfl #[.int .i64 (t163.size : Int), .int .i64 1, .int .i64 60] (by rfl) rfl rfl au_ ?_
        with_reducible refine (spec_l1In.calls (t163.size : Int) 1 60 t166 _ A45.out).mono ?_
        rintro e w' ⟨rfl, ⟨nd, rfl⟩⟩; refine ⟨_, rfl, ?_⟩
        refine hK.out _ _ ⟨(blk_cell BK161.out 0).trans rfl, (blk_cell BK161.out 1).trans rfl, (blk_cell BK161.out 2).trans rfl⟩ (fun hHeld => ?_)
        clear hK K; refine norm_ (a' := ?_) ?_ ?_
        rotate_left
        ·show Act.put _ (some 57) _ = _
         simp only [Act.put, List.setIfInBounds_toArray, List.set_cons_zero, List.set_cons_succ, i64_w, i32_w]
         rfl
        refine one_ (i := 4) (N := none) #[true, true, true, true, true, false] rfl rfl (by kernel_rfl) (by decide) (fun K hK => ?_)
        have hs50 : w49.cell? ⟨gb157, 0, none⟩ = some (.string (⟨#[]⟩ : ByteArray)) := (blk_cell BK157.out 0).trans rfl
        have hfs50 := blk_frozen BK157.out 0; have hns50_1 := NB161_157.out; have hms50_1 := NB157_161.out; have hs51 : w49.cell? ⟨gb157, 1, none⟩ = some (.string (⟨#[]⟩ : ByteArray)) := (blk_cell BK157.out 1).trans rfl
        have hfs51 := blk_frozen BK157.out 1; have hns51_1 := NB161_157.out; have hms51_1 := NB157_161.out; have hs52 : w49.cell? ⟨gb157, 2, none⟩ = some (.bool false) := (blk_cell BK157.out 2).trans rfl
        have hfs52 := blk_frozen BK157.out 2; have hns52_1 := NB161_157.out; have hms52_1 := NB157_161.out; refine skip_ (w1 := ?_) (by rfl) rfl ?_ ?_
        rotate_left
        ·go_simp
         rfl
        refine hK.out _ _ ⟨((cell_far (p := ⟨gb157, _, none⟩) NB161_157.out _).trans (((cell_far (p := ⟨gb157, _, none⟩) NB161_157.out _).trans (((cell_far (p := ⟨gb157, _, none⟩) NB161_157.out _).trans (hHeld.1)))))), ((cell_far (p := ⟨gb157, _, none⟩) NB161_157.out _).trans (((cell_far (p := ⟨gb157, _, none⟩) NB161_157.out _).trans (((cell_far (p := ⟨gb157, _, none⟩) NB161_157.out _).trans (hHeld.2.1)))))), ((cell_far (p := ⟨gb157, _, none⟩) NB161_157.out _).trans (((cell_far (p := ⟨gb157, _, none⟩) NB161_157.out _).trans (((cell_far (p := ⟨gb157, _, none⟩) NB161_157.out _).trans (hHeld.2.2))))))⟩ (fun hHeld => ?_)
        clear hK K; refine tkp_ 5 (some 3) #[true, true, true, true, true, true] (by kernel_rfl) ?_
        refine done_ (by kernel_rfl) ?_
        try go_wp2
        refine bodyPost_ret (results_ct rfl _ _ gb157 80 #[.string t160, .string t163, .bool false] (0, 0) _ rfl (bp_ BK157.out) Tryz.underlying80 rfl (by kernel_rfl)) rfl ?_
        exact ⟨er_, bes_⟩

/-! ### spec_l5Decls: function 73 -/
def spec_l5Decls.l0 : Nat → List (S80) → List ByteArray → Int → Int → Option ((List (S80)))
 | 0, _, _, _, _ => none
 | k + 1, x3, x9, x10, x11 => if x11 < x10 then (if 0 ≤ x11 then (if x11 < (x9.length : Int) then ((spec_l5Decl.f k (rdOf ByteArray.empty x9 x11)).bind fun bt171 => (if bt171.2.2.2 = true then (if (x3.length : Int) < 12 then (if x3.length < 3518437208883 then (spec_l5Decls.l0 k (x3 ++ [(⟨bt171.1, bt171.2.1, bt171.2.2.1⟩ : S80)]) x9 x10 (wrap64 (x11 + 1))) else (none)) else (spec_l5Decls.l0 k x3 x9 x10 (wrap64 (x11 + 1)))) else (spec_l5Decls.l0 k x3 x9 x10 (wrap64 (x11 + 1))))) else (none)) else (none)) else (some x3)
def spec_l5Decls.f (k : Nat) (a0 : ByteArray) : Option ((List (S80))) := (spec_l1Split.f k a0 59).bind fun t167 => (spec_l5Decls.l0 k ([] : List (S80)) t167 (t167.length : Int) 0)
theorem spec_l5Decls.calls (k : Nat) (a0 : ByteArray) (r : List (S80)) (w : World) (h : spec_l5Decls.f k a0 = some r) :
  Calls Tryz.prog 73 #[.string a0] w fun e w' => ∃ v0_ : Value, e = .returned (v0_) ∧ Kd.R k80 80 w' w.heap.size (fun _ => True) v0_ r ∧ Below w.heap.size w w' := by
 have hu80 := Tryz.underlying80; have HB := ak_ (Below.refl w.heap.size w); have H := h; unfold spec_l5Decls.f at H
 clear h; replace H := bnd_ H; obtain ⟨t167, A2, H⟩ := H; have H' := ak_ H; clear H; go_enter Tryz.func73, Tryz.ntmps73
 go_wp2_with (first | ((with_reducible refine gate_callee (f := 74) rfl ?_); refine gl_ (some 9) Tryz.func74 #[.string a0, .int .u8 59] ?_; (with_reducible refine (spec_l1Split.calls k a0 59 t167 _ A2.out).mono ?_); rintro e w3 ⟨v168, rfl, ho0, hb⟩; refine ⟨_, rfl, ?_⟩; have n_ := an2_ (Kd.R_lower ho0 (below_size bel_)) (below_step bel_ hb); clear HB; obtain ⟨HO169, HB⟩ := n_; (try clear hb);(try clear hb2);(try clear hk);(try clear hi);(try clear ho0); obtain ⟨Ao4, co4, eo4⟩ := Kd.R_slice HO169.out; subst eo4))
 go_loopg [3, 11] k (fun kq v3 v11 w' => ∃ (x3_1 : List (S80)) (x11_1 : Int), v11 = .int .i64 x11_1 ∧ Aside0 (spec_l5Decls.l0 kq x3_1 t167 (t167.length : Int) x11_1 = some r) ∧ Aside0 (kq ≤ k) ∧ Aside0 (Kd.R k80 80 w' w.heap.size (fun _ => True) v3 x3_1) ∧ Aside0 (Kd.R Kd.string 9 w' w.heap.size (fun _ => True) (.slice Ao4 t167.length co4) t167) ∧ Aside0 (Below w.heap.size w w'))
 case atStart => exact ⟨(([] : List (S80))), (0), sv_, H', ⟨Nat.le_refl _⟩, ⟨by first | exact Kd.R_nil _ _ _ _ _ | exact Kd.N_nil _ _ _ _ _ | exact Kd.V_nil _ _ _ _ _ | exact Kd.Q_nil _ _ _ _ _ | exact Kd.S_nil _ _ _ _ _⟩, ⟨kdR_ HO169.out⟩, ⟨bel_⟩⟩
 case round =>
  clear H'; (try clear p2)
  obtain ⟨x3_1, x11_1, rfl, HA, HK1, HO_3, HO_9, HB⟩ := hrel; cases gk with
  | zero => exact absurd HA.out (by simp [spec_l5Decls.l0])
  | succ k1 =>
   have H := HA.out; clear HA; simp only [spec_l5Decls.l0] at H
   replace H := ied_ H; rcases H with ⟨c5b0, H⟩ | ⟨c5b0, H⟩
   ·replace H := itd_ H; obtain ⟨c6b0, H⟩ := H; replace H := itd_ H; obtain ⟨c7b0, H⟩ := H; replace H := bnd_ H; obtain ⟨⟨t171, t172, t173, t174⟩, A8, H⟩ := H; (try dsimp only at H); replace H := itb_ H; rcases H with ⟨rfl, H⟩ | ⟨rfl, H⟩
    ·replace H := ite_ H; rcases H with ⟨c10, H⟩ | ⟨c10, H⟩
     ·have c10b0 := decide_eq_true c10; have c10b1 : decide (x3_1.length < 12) = true := decide_eq_true (by omega)
      clear c10; replace H := itn_ H; obtain ⟨c11, H⟩ := H; have LMc11 := ak_ c11; clear c11; obtain ⟨y176, hy176⟩ : ∃ y_ : List (S80), y_ = (x3_1 ++ [(⟨t171, t172, t173⟩ : S80)]) := ⟨_, rfl⟩
      replace H : (spec_l5Decls.l0 k1 y176 t167 (t167.length : Int) (wrap64 (x11_1 + 1))) = some r := by first | (rw [hy176]; with_reducible exact H) | (have H2_ := (Option.bind_some _ _).symm.trans H; rw [hy176]; with_reducible exact H2_) | (have H2_ := (Option.bind_some _ _).symm.trans H; with_reducible exact H2_) | with_reducible exact H | (rw [hy176]; exact H) | exact H
      have Ny176 := ak_ hy176; clear hy176; have H' := ak_ H; clear H; have p170 : 0 ≤ (x11_1 : Int) := oda_
      have q170 : x11_1 < (t167.length : Int) := oda_
      obtain ⟨ad170, e170, hx170_0⟩ := Kd.at_string (Kd.R_reads' HO_9.out).2.2 x11_1 p170 q170; cases e170; replace p170 := eq_true p170; replace q170 := eq_true q170; go_wp2_with (first | ((with_reducible refine gate_callee (f := 89) rfl ?_); refine gl_ (some 17) Tryz.func89 #[.string (rdOf ByteArray.empty t167 x11_1)] ?_; (with_reducible refine (spec_l5Decl.calls k1 (rdOf ByteArray.empty t167 x11_1) t171 t172 t173 true _ A8.out).mono ?_); rintro e w12 ⟨rfl, hb⟩; refine ⟨_, rfl, ?_⟩; have n_ := an3_ (Kd.R_below (kdR_ HO_3.out) hb) (Kd.R_below (kdR_ HO_9.out) hb) (below_step bel_ hb); clear HO_3 HO_9 HB; obtain ⟨HO_3, HO_9, HB⟩ := n_; (try clear hb);(try clear hb2);(try clear hk);(try clear hi)) | ((with_reducible refine gate_dst (N := 6) rfl ?_); (try (refine gate_guard (by rfl) ?_; dsimp only)); refine bx_ (N := 6) (cs := #[.string (⟨#[]⟩ : ByteArray), .string (⟨#[]⟩ : ByteArray), .bool false]) (t := 80) ?_; intro gb175 hg w13 hbox hb; have n_ := an6_ (Kd.R_below (Kd.R_elderB (kdR_ HO_3.out) gb175 (Nat.le_of_eq hg.symm)) hb) (Kd.R_below (kdR_ HO_9.out) hb) (below_step bel_ hb) (hbox) (gsl_ hg HB.out) (gsl_ hg HB.out); clear HO_3 HO_9 HB; obtain ⟨HO_3, HO_9, HB, BK175, GW175, GE175⟩ := n_; clear hb hbox hg; obtain ⟨z14_0, z14_1, z14_2, y14_0, y14_1, y14_2⟩ := bcz3 BK175.out; obtain ⟨Ao15, co15, eo15⟩ := Kd.R_slice HO_3.out; subst eo15) | ((with_reducible refine gate_builtin (b := .append) (xs := #[.tmp 26, .tmp 28]) rfl ?_); (try (refine gate_guard (by rfl) ?_; dsimp only)); at_builtin; refine Kd.R_append k80 (w0 := w) w.heap.size rfl (.tmp 26) (.tmp 28) 48 80 (.agg #[(.string ⟨#[]⟩), (.string ⟨#[]⟩), (.bool false)]) 40 rfl Tryz.underlying48 info80 rfl (by decide) (by omega) (.slice Ao15 x3_1.length co15) x3_1 (⟨t171, t172, t173⟩ : S80) [.string t171, .string t172, .bool t173] (fun k_ => k_ ≠ gb175) (fun _ => False) rfl (by first | (go_simp; done) | (go_simp; rfl)) ?aP (fun _ hk => hk.elim) ?aF ?aO ?aB ?aS ?aL ?_; (case aP => exact k80_mkM _ _ _ (⟨t171, t172, t173⟩ : S80)); (case aB => exact bes_); (case aF => exact (fun k_ hk => Kd.freshB (g := gb175) (o := .cells #[.string t171, .string t172, .bool t173] 80 (0, 0)) (bp_ BK175.out) k_ hk)); (case aO => exact (by (with_reducible repeat (first | apply Kd.R_alloc | apply Kd.R_drewN | apply Kd.R_drew)); exact Kd.R_mono (Kd.R_far (Kd.R_far (Kd.R_far (Kd.R_mono HO_3.out (fun k_ hk => (⟨hk, hk.2⟩ : _ ∧ k_ ≠ gb175))) (fun _ hk => hk.2) _) (fun _ hk => hk.2) _) (fun _ hk => hk.2) _) (fun _ hk => hk.1.2))); (case aS => exact (below_size bes_)); (case aL => have := LMc11.out; omega); intro v177 w16 ho hb hg hat; rw [← Ny176.out] at ho; have n_ := an4_ (Kd.R_over' (by (with_reducible repeat (first | apply Kd.R_alloc | apply Kd.R_drewN | apply Kd.R_drew)); exact (Kd.R_mono (Kd.R_far (Kd.R_far (Kd.R_far (Kd.R_types HO_9.out BK175.out (by decide)) (fun _ hk => hk.2) _) (fun _ hk => hk.2) _) (fun _ hk => hk.2) _) (fun _ h_ => h_.1))) (Kd.R_typed (by (with_reducible repeat (first | apply Kd.R_alloc | apply Kd.R_drewN | apply Kd.R_drew)); exact (Kd.R_mono (Kd.R_far (Kd.R_far (Kd.R_far (Kd.R_mono HO_3.out (fun k_ hk => (⟨hk, hk.2⟩ : _ ∧ k_ ≠ gb175))) (fun _ hk => hk.2) _) (fun _ hk => hk.2) _) (fun _ hk => hk.2) _) (fun _ h_ => h_.1)))) (by decide) hg) (blk_grown (g := gb175) (o := .cells #[.string t171, .string t172, .bool t173] 80 (0, 0)) (bp_ BK175.out) hg (Kd.R_away HO_3.out (fun _ hk => hk.2))) (hb) (ho); clear HO_9 BK175 HB HO_3; obtain ⟨HO_9, BK175, HB, HO178⟩ := n_; clear ho hb hg hat))
      go_roundg k1
      case measure => have := HK1.out; omega
      case rel => exact ⟨(y176), (wrap64 (x11_1 + 1)), sv_, H', ⟨by have := HK1.out; omega⟩, ⟨by (with_reducible repeat (first | apply Kd.R_alloc | apply Kd.R_drewN | apply Kd.R_drew)); exact Kd.R_mono HO178.out (fun _ hk => trivial)⟩, ⟨kdR_ HO_9.out⟩, ⟨bes_⟩⟩
     ·have c10b0 := decide_eq_false c10; have c10b1 : decide (x3_1.length < 12) = false := decide_eq_false (by omega)
      clear c10; have H' := ak_ H; clear H; have p170 : 0 ≤ (x11_1 : Int) := oda_
      have q170 : x11_1 < (t167.length : Int) := oda_
      obtain ⟨ad170, e170, hx170_0⟩ := Kd.at_string (Kd.R_reads' HO_9.out).2.2 x11_1 p170 q170; cases e170; replace p170 := eq_true p170; replace q170 := eq_true q170; go_wp2_with (first | ((with_reducible refine gate_callee (f := 89) rfl ?_); refine gl_ (some 17) Tryz.func89 #[.string (rdOf ByteArray.empty t167 x11_1)] ?_; (with_reducible refine (spec_l5Decl.calls k1 (rdOf ByteArray.empty t167 x11_1) t171 t172 t173 true _ A8.out).mono ?_); rintro e w17 ⟨rfl, hb⟩; refine ⟨_, rfl, ?_⟩; have n_ := an3_ (Kd.R_below (kdR_ HO_3.out) hb) (Kd.R_below (kdR_ HO_9.out) hb) (below_step bel_ hb); clear HO_3 HO_9 HB; obtain ⟨HO_3, HO_9, HB⟩ := n_; (try clear hb);(try clear hb2);(try clear hk);(try clear hi)) | ((with_reducible refine gate_dst (N := 6) rfl ?_); (try (refine gate_guard (by rfl) ?_; dsimp only)); refine bx_ (N := 6) (cs := #[.string (⟨#[]⟩ : ByteArray), .string (⟨#[]⟩ : ByteArray), .bool false]) (t := 80) ?_; intro gb175 hg w18 hbox hb; have n_ := an6_ (Kd.R_below (Kd.R_elderB (kdR_ HO_3.out) gb175 (Nat.le_of_eq hg.symm)) hb) (Kd.R_below (kdR_ HO_9.out) hb) (below_step bel_ hb) (hbox) (gsl_ hg HB.out) (gsl_ hg HB.out); clear HO_3 HO_9 HB; obtain ⟨HO_3, HO_9, HB, BK175, GW175, GE175⟩ := n_; clear hb hbox hg; obtain ⟨z19_0, z19_1, z19_2, y19_0, y19_1, y19_2⟩ := bcz3 BK175.out; obtain ⟨Ao20, co20, eo20⟩ := Kd.R_slice HO_3.out; subst eo20))
      go_roundg k1
      case measure => have := HK1.out; omega
      case rel => exact ⟨(x3_1), (wrap64 (x11_1 + 1)), sv_, H', ⟨by have := HK1.out; omega⟩, ⟨by (with_reducible repeat (first | apply Kd.R_alloc | apply Kd.R_drewN | apply Kd.R_drew)); exact Kd.R_mono (Kd.R_far (Kd.R_far (Kd.R_far (Kd.R_mono HO_3.out (fun k_ hk => (⟨hk, hk.2⟩ : _ ∧ k_ ≠ gb175))) (fun _ hk => hk.2) _) (fun _ hk => hk.2) _) (fun _ hk => hk.2) _) (fun _ hk => trivial)⟩, ⟨by (with_reducible repeat (first | apply Kd.R_alloc | apply Kd.R_drewN | apply Kd.R_drew)); exact Kd.R_mono (Kd.R_far (Kd.R_far (Kd.R_far (Kd.R_types HO_9.out BK175.out (by decide)) (fun _ hk => hk.2) _) (fun _ hk => hk.2) _) (fun _ hk => hk.2) _) (fun _ hk => trivial)⟩, ⟨bes_⟩⟩
    ·have H' := ak_ H; clear H; have p170 : 0 ≤ (x11_1 : Int) := oda_
     have q170 : x11_1 < (t167.length : Int) := oda_
     obtain ⟨ad170, e170, hx170_0⟩ := Kd.at_string (Kd.R_reads' HO_9.out).2.2 x11_1 p170 q170; cases e170; replace p170 := eq_true p170; replace q170 := eq_true q170; go_wp2_with (first | ((with_reducible refine gate_callee (f := 89) rfl ?_); refine gl_ (some 17) Tryz.func89 #[.string (rdOf ByteArray.empty t167 x11_1)] ?_; (with_reducible refine (spec_l5Decl.calls k1 (rdOf ByteArray.empty t167 x11_1) t171 t172 t173 false _ A8.out).mono ?_); rintro e w21 ⟨rfl, hb⟩; refine ⟨_, rfl, ?_⟩; have n_ := an3_ (Kd.R_below (kdR_ HO_3.out) hb) (Kd.R_below (kdR_ HO_9.out) hb) (below_step bel_ hb); clear HO_3 HO_9 HB; obtain ⟨HO_3, HO_9, HB⟩ := n_; (try clear hb);(try clear hb2);(try clear hk);(try clear hi)) | ((with_reducible refine gate_dst (N := 6) rfl ?_); (try (refine gate_guard (by rfl) ?_; dsimp only)); refine bx_ (N := 6) (cs := #[.string (⟨#[]⟩ : ByteArray), .string (⟨#[]⟩ : ByteArray), .bool false]) (t := 80) ?_; intro gb175 hg w22 hbox hb; have n_ := an6_ (Kd.R_below (Kd.R_elderB (kdR_ HO_3.out) gb175 (Nat.le_of_eq hg.symm)) hb) (Kd.R_below (kdR_ HO_9.out) hb) (below_step bel_ hb) (hbox) (gsl_ hg HB.out) (gsl_ hg HB.out); clear HO_3 HO_9 HB; obtain ⟨HO_3, HO_9, HB, BK175, GW175, GE175⟩ := n_; clear hb hbox hg; obtain ⟨z23_0, z23_1, z23_2, y23_0, y23_1, y23_2⟩ := bcz3 BK175.out))
     go_roundg k1
     case measure => have := HK1.out; omega
     case rel => exact ⟨(x3_1), (wrap64 (x11_1 + 1)), sv_, H', ⟨by have := HK1.out; omega⟩, ⟨by (with_reducible repeat (first | apply Kd.R_alloc | apply Kd.R_drewN | apply Kd.R_drew)); exact Kd.R_mono (Kd.R_far (Kd.R_far (Kd.R_far (Kd.R_mono HO_3.out (fun k_ hk => (⟨hk, hk.2⟩ : _ ∧ k_ ≠ gb175))) (fun _ hk => hk.2) _) (fun _ hk => hk.2) _) (fun _ hk => hk.2) _) (fun _ hk => trivial)⟩, ⟨by (with_reducible repeat (first | apply Kd.R_alloc | apply Kd.R_drewN | apply Kd.R_drew)); exact Kd.R_mono (Kd.R_far (Kd.R_far (Kd.R_far (Kd.R_types HO_9.out BK175.out (by decide)) (fun _ hk => hk.2) _) (fun _ hk => hk.2) _) (fun _ hk => hk.2) _) (fun _ hk => trivial)⟩, ⟨bes_⟩⟩
   ·obtain rfl := Option.some.inj H
    go_wp2; go_ret
    exact ⟨_, er_, kdR_ HO_3.out, bel_⟩

/-! ### spec_l5Part: function 91 -/
mutual
def spec_l5Part.j0 : Nat → ByteArray → Int → ByteArray → ByteArray → Option (ByteArray × ByteArray × List ByteArray × Bool)
 | 0, _, _, _, _ => none
 | k + 1, x0, x5, x181000, x181001 => if x5 < (x0.size : Int) then (if 0 ≤ x5 then (spec_l5Part.j1 k x0 x5 ((bt x0 x5) == 35) x181000 x181001) else (none)) else (spec_l5Part.j1 k x0 x5 false x181000 x181001)
def spec_l5Part.j1 : Nat → ByteArray → Int → Bool → ByteArray → ByteArray → Option (ByteArray × ByteArray × List ByteArray × Bool)
 | 0, _, _, _, _, _ => none
 | k + 1, x0, x5, x35, x181000, x181001 => if x35 = true then (if 0 ≤ (wrap64 (x5 + 1)) then (if (wrap64 (x5 + 1)) ≤ (x0.size : Int) then ((spec_l5Run.f k (x0.extract ((wrap64 (x5 + 1)) : Int).toNat x0.size)).bind fun t182 => (if t182 = 0 then (some (x181000, x181001, ([] : List ByteArray), false)) else (if (wrap64 (x5 + 1)) ≤ (wrap64 ((wrap64 (x5 + 1)) + t182)) then (if (wrap64 ((wrap64 (x5 + 1)) + t182)) ≤ (x0.size : Int) then (spec_l5Part.j2 k x0 (wrap64 (x5 + (wrap64 (1 + t182)))) x181000 (x0.extract ((wrap64 (x5 + 1)) : Int).toNat ((wrap64 ((wrap64 (x5 + 1)) + t182)) : Int).toNat)) else (none)) else (none)))) else (none)) else (none)) else (spec_l5Part.j2 k x0 x5 x181000 x181001)
def spec_l5Part.j2 : Nat → ByteArray → Int → ByteArray → ByteArray → Option (ByteArray × ByteArray × List ByteArray × Bool)
 | 0, _, _, _, _ => none
 | k + 1, x0, x5, x181000, x181001 => spec_l5Part.l0 k x0 x5 x181000 x181001 ([] : List ByteArray)
def spec_l5Part.l0 : Nat → ByteArray → Int → ByteArray → ByteArray → List ByteArray → Option (ByteArray × ByteArray × List ByteArray × Bool)
 | 0, _, _, _, _, _ => none
 | k + 1, x0, x5, x181000, x181001, x181002 => if x5 < (x0.size : Int) then (if 0 ≤ x5 then (spec_l5Part.j4 k x0 x5 ((bt x0 x5) == 46) x181000 x181001 x181002) else (none)) else (spec_l5Part.j4 k x0 x5 false x181000 x181001 x181002)
def spec_l5Part.j4 : Nat → ByteArray → Int → Bool → ByteArray → ByteArray → List ByteArray → Option (ByteArray × ByteArray × List ByteArray × Bool)
 | 0, _, _, _, _, _, _ => none
 | k + 1, x0, x5, x66, x181000, x181001, x181002 => if x66 = true then (if 0 ≤ (wrap64 (x5 + 1)) then (if (wrap64 (x5 + 1)) ≤ (x0.size : Int) then ((spec_l5Run.f k (x0.extract ((wrap64 (x5 + 1)) : Int).toNat x0.size)).bind fun t183 => (if t183 = 0 then (some (x181000, x181001, x181002, false)) else (if (x181002.length : Int) = 4 then (some (x181000, x181001, x181002, false)) else (if (wrap64 (x5 + 1)) ≤ (wrap64 ((wrap64 (x5 + 1)) + t183)) then (if (wrap64 ((wrap64 (x5 + 1)) + t183)) ≤ (x0.size : Int) then (if x181002.length < 8796093022208 then (spec_l5Part.l0 k x0 (wrap64 (x5 + (wrap64 (1 + t183)))) x181000 x181001 (x181002 ++ [x0.extract ((wrap64 (x5 + 1)) : Int).toNat ((wrap64 ((wrap64 (x5 + 1)) + t183)) : Int).toNat])) else (none)) else (none)) else (none))))) else (none)) else (none)) else (some (x181000, x181001, x181002, (x5 == (x0.size : Int))))
end
def spec_l5Part.f (k : Nat) (a0 : ByteArray) : Option (ByteArray × ByteArray × List ByteArray × Bool) := if a0.toList = ([] : List UInt8) then (some ((⟨#[]⟩ : ByteArray), (⟨#[]⟩ : ByteArray), ([] : List ByteArray), false)) else (if 0 < (a0.size : Int) then (if (bt a0 0) = 42 then (spec_l5Part.j0 k a0 1 (⟨#[42]⟩ : ByteArray) (⟨#[]⟩ : ByteArray)) else ((spec_l5Run.f k a0).bind fun t181 => (if t181 > 0 then (if 0 ≤ t181 then (if t181 ≤ (a0.size : Int) then (spec_l5Part.j0 k a0 t181 (a0.extract 0 (t181 : Int).toNat) (⟨#[]⟩ : ByteArray)) else (none)) else (none)) else (spec_l5Part.j0 k a0 0 (⟨#[]⟩ : ByteArray) (⟨#[]⟩ : ByteArray))))) else (none))
def spec_l5Part.T22 : Bool × List (List Nat × List Nat) := (true, [([], []), ([0], [0]), ([], []), ([], []), ([3], [3]), ([], []), ([5], [5]), ([], []), ([6, 7], [6, 7]), ([2, 4, 8], [2, 4, 8]), ([9], [9]), ([1, 10], [1, 10]), ([0, 1, 2, 3, 4, 5, 6, 7, 8, 9, 10, 11], []), ([12, 11, 11, 0, 1, 2, 3, 4, 5, 6, 7, 8, 9, 10, 11], [11, 12])])
def spec_l5Part.B22 : List Nat := [0, 1, 0, 0, 8, 0, 32, 0, 224, 508, 1020, 2047, 4095, 8191]
theorem spec_l5Part.tab22 : rtab .any (opsOf Tryz.f91 22) = spec_l5Part.T22 := by kernel_rfl
theorem spec_l5Part.bits22 : waitsOk spec_l5Part.T22.2 spec_l5Part.B22 = true := by kernel_rfl
theorem spec_l5Part.calls (k : Nat) (a0 : ByteArray) (r1 : ByteArray) (r2 : ByteArray) (r3 : List ByteArray) (r4 : Bool) (w : World) (h : spec_l5Part.f k a0 = some (r1, r2, r3, r4)) :
  Calls Tryz.prog 91 #[.string a0] w fun e w' => ∃ v2_ : Value, e = .returned (.tuple #[.agg #[.string r1, .string r2, v2_], .bool r4]) ∧ Kd.R Kd.string 9 w' w.heap.size (fun _ => True) v2_ r3 ∧ Below w.heap.size w w' := by
 have hu102 := Tryz.underlying102; have HB := ak_ (Below.refl w.heap.size w); have H := h; unfold spec_l5Part.f at H
 clear h; replace H := ite_ H; rcases H with ⟨c2, H⟩ | ⟨c2, H⟩
 ·obtain ⟨c2b0, c2b7, c2b8, c2b1⟩ := emp1_ c2; clear c2; simp only [Option.some.injEq, Prod.mk.injEq] at H
  obtain ⟨rfl, rfl, rfl, rfl⟩ := H; go_enter Tryz.func91, Tryz.ntmps91
  go_wp2_with (first | ((with_reducible refine gate_dst (N := 2) rfl ?_); (try (refine gate_guard (by rfl) ?_; dsimp only)); refine bx_ (N := 2) (cs := #[.string (⟨#[]⟩ : ByteArray), .string (⟨#[]⟩ : ByteArray), .slice none 0 0]) (t := 102) ?_; intro gb179 hg w3 hbox hb; have n_ := an4_ (below_step bel_ hb) (hbox) (gsl_ hg HB.out) (gsl_ hg HB.out); clear HB; obtain ⟨HB, BK179, GW179, GE179⟩ := n_; clear hb hbox hg) | ((with_reducible refine gate_dst (N := 4) rfl ?_); (try (refine gate_guard (by rfl) ?_; dsimp only)); refine bx_ (N := 4) (cs := #[.string (⟨#[]⟩ : ByteArray), .string (⟨#[]⟩ : ByteArray), .slice none 0 0]) (t := 102) ?_; intro gb180 hg w4 hbox hb; have n_ := an7_ (blk_below (g := gb179) (o := .cells #[.string (⟨#[]⟩ : ByteArray), .string (⟨#[]⟩ : ByteArray), .slice none 0 0] 102 (0, 0)) (bk_ BK179.out) hb) (below_step bes_ hb) (hbox) (gsl_ hg HB.out) (gsl_ hg HB.out) ((by rw [hg]; exact Nat.ne_of_lt (blk_lt (g := gb179) (o := .cells #[.string (⟨#[]⟩ : ByteArray), .string (⟨#[]⟩ : ByteArray), .slice none 0 0] 102 (0, 0)) (bk_ BK179.out)) : gb179 ≠ gb180)) ((by rw [hg]; exact Nat.ne_of_gt (blk_lt (g := gb179) (o := .cells #[.string (⟨#[]⟩ : ByteArray), .string (⟨#[]⟩ : ByteArray), .slice none 0 0] 102 (0, 0)) (bk_ BK179.out)) : gb180 ≠ gb179)); clear BK179 HB; obtain ⟨BK179, HB, BK180, GW180, GE180, NB179_180, NB180_179⟩ := n_; clear hb hbox hg; have hnb5 := NB180_179.out; have hnc5 := NB179_180.out; obtain ⟨z6_0, z6_1, z6_2, y6_0, y6_1, y6_2⟩ := bcz3 BK180.out; obtain ⟨z7_0, z7_1, z7_2, y7_0, y7_1, y7_2⟩ := bcz3 BK179.out))
  refine bodyPost_ret (results_ct rfl _ _ gb179 102 #[.string (⟨#[]⟩ : ByteArray), .string (⟨#[]⟩ : ByteArray), .slice none 0 0] (0, 0) _ rfl (bp_ BK179.out) Tryz.underlying102 rfl (by kernel_rfl)) rfl ?_
  exact ⟨_, er_, by first | exact Kd.R_nil _ _ _ _ _ | exact Kd.N_nil _ _ _ _ _ | exact Kd.V_nil _ _ _ _ _ | exact Kd.Q_nil _ _ _ _ _ | exact Kd.S_nil _ _ _ _ _, bes_⟩
 ·obtain ⟨c2b0, c2b7, c2b8, c2b1⟩ := emp0_ c2; replace H := itn_ H; obtain ⟨c8, H⟩ := H; have c8b0 := decide_eq_true c8; have c8b1 : decide (0 < a0.size) = true := decide_eq_true (by omega)
  clear c8; have HC10 := ak_ H; clear H; go_enter Tryz.func91, Tryz.ntmps91
  go_upto_if 15 with (first | ((with_reducible refine gate_dst (N := 2) rfl ?_); (try (refine gate_guard (by rfl) ?_; dsimp only)); refine bx_ (N := 2) (cs := #[.string (⟨#[]⟩ : ByteArray), .string (⟨#[]⟩ : ByteArray), .slice none 0 0]) (t := 102) ?_; intro gb179 hg w11 hbox hb; have n_ := an4_ (below_step bel_ hb) (hbox) (gsl_ hg HB.out) (gsl_ hg HB.out); clear HB; obtain ⟨HB, BK179, GW179, GE179⟩ := n_; clear hb hbox hg) | ((with_reducible refine gate_dst (N := 4) rfl ?_); (try (refine gate_guard (by rfl) ?_; dsimp only)); refine bx_ (N := 4) (cs := #[.string (⟨#[]⟩ : ByteArray), .string (⟨#[]⟩ : ByteArray), .slice none 0 0]) (t := 102) ?_; intro gb180 hg w12 hbox hb; have n_ := an7_ (blk_below (g := gb179) (o := .cells #[.string (⟨#[]⟩ : ByteArray), .string (⟨#[]⟩ : ByteArray), .slice none 0 0] 102 (0, 0)) (bk_ BK179.out) hb) (below_step bes_ hb) (hbox) (gsl_ hg HB.out) (gsl_ hg HB.out) ((by rw [hg]; exact Nat.ne_of_lt (blk_lt (g := gb179) (o := .cells #[.string (⟨#[]⟩ : ByteArray), .string (⟨#[]⟩ : ByteArray), .slice none 0 0] 102 (0, 0)) (bk_ BK179.out)) : gb179 ≠ gb180)) ((by rw [hg]; exact Nat.ne_of_gt (blk_lt (g := gb179) (o := .cells #[.string (⟨#[]⟩ : ByteArray), .string (⟨#[]⟩ : ByteArray), .slice none 0 0] 102 (0, 0)) (bk_ BK179.out)) : gb180 ≠ gb179)); clear BK179 HB; obtain ⟨BK179, HB, BK180, GW180, GE180, NB179_180, NB180_179⟩ := n_; clear hb hbox hg; have hnb13 := NB180_179.out; have hnc13 := NB179_180.out; obtain ⟨z14_0, z14_1, z14_2, y14_0, y14_1, y14_2⟩ := bcz3 BK180.out; have p9 : 0 ≤ (0 : Int) := (by omega); have q9 : 0 < a0.size := (by have : (0 : Int) < (a0.size : Int) := oda_; omega); have hx9 : ∀ h : 0 < a0.size, ((a0[0]'h).toNat : Int) = bt a0 0 := bt_at a0 0; clear p9; have qi9 : (0 < (a0.size : Int)) = True := eq_true (oda_); replace q9 := eq_true q9))
  (try simp only [Act.put, List.setIfInBounds_toArray, List.set_cons_zero, List.set_cons_succ])
  go_cut [5] (fun v5 wc => ∃ (kq : Nat) (x5_9 : Int) (x181000_9 : ByteArray), v5 = .int .i64 x5_9 ∧ Aside0 (spec_l5Part.j0 kq a0 x5_9 x181000_9 (⟨#[]⟩ : ByteArray) = some (r1, r2, r3, r4)) ∧ Aside0 (kq ≤ k) ∧ Aside0 (wc.heap[gb179]? = some (.cells #[.string (⟨#[]⟩ : ByteArray), .string (⟨#[]⟩ : ByteArray), (.slice none 0 0)] 102 (0, 0))) ∧ Aside0 (wc.heap[gb180]? = some (.cells #[.string x181000_9, .string (⟨#[]⟩ : ByteArray), (.slice none 0 0)] 102 (0, 0))) ∧ Aside0 (Below w.heap.size w wc))
  case first =>
   have H := HC10.out; clear HC10; replace H := ite_ H; rcases H with ⟨c15, H⟩ | ⟨c15, H⟩
   ·have c15b0 := beq_iff_eq.mpr c15; have c15b1 := bne_eq_false_iff_eq.mpr c15; clear c15; (first | rw [c15b0] | (simp only [i64_w, i32_w]; rw [c15b0]) | skip)
    have H' := ak_ H; clear H; have hnb16 := NB180_179.out; have hnc16 := NB179_180.out; obtain ⟨z17_0, z17_1, z17_2, y17_0, y17_1, y17_2⟩ := bcz3 BK180.out; go_wp2; go_meet
    case rel => exact ⟨_, (1), ((⟨#[42]⟩ : ByteArray)), sv_, H', ⟨by first | omega | exact Nat.le_refl _⟩, ⟨bp_ BK179.out⟩, ⟨bp_ BK180.out⟩, ⟨bes_⟩⟩
   ·have c15b0 := beq_eq_false_iff_ne.mpr c15; have c15b1 := bne_iff_ne.mpr c15; (first | rw [c15b0] | (simp only [i64_w, i32_w]; rw [c15b0]) | skip)
    replace H := bnd_ H; obtain ⟨t181, A18, H⟩ := H; replace H := ied_ H; rcases H with ⟨c19b0, H⟩ | ⟨c19b0, H⟩
    ·replace H := itn_ H; obtain ⟨c20, H⟩ := H; have c20b0 := eq_true c20; have c20b1 := decide_eq_true c20; clear c20; replace H := itn_ H; obtain ⟨c21, H⟩ := H; have c21b0 := eq_true c21; have c21b1 := decide_eq_true c21; clear c21; have H' := ak_ H; clear H; go_wp2_with (first | ((with_reducible refine gate_callee (f := 110) rfl ?_); refine gl_ (some 18) Tryz.func110 #[.string a0] ?_; (with_reducible refine (spec_l5Run.calls k a0 t181 _ A18.out).mono ?_); rintro e w' ⟨rfl, ⟨nd, rfl⟩⟩; refine ⟨_, rfl, ?_⟩; have hnb22 := NB180_179.out; have hnc22 := NB179_180.out; obtain ⟨z23_0, z23_1, z23_2, y23_0, y23_1, y23_2⟩ := bcz3 BK180.out))
     go_meet
     case rel => exact ⟨_, (t181), (a0.extract 0 (t181 : Int).toNat), sv_, H', ⟨by first | omega | exact Nat.le_refl _⟩, ⟨bp_ BK179.out⟩, ⟨bp_ BK180.out⟩, ⟨bes_⟩⟩
    ·have H' := ak_ H; clear H; go_wp2_with (first | ((with_reducible refine gate_callee (f := 110) rfl ?_); refine gl_ (some 18) Tryz.func110 #[.string a0] ?_; (with_reducible refine (spec_l5Run.calls k a0 t181 _ A18.out).mono ?_); rintro e w' ⟨rfl, ⟨nd, rfl⟩⟩; refine ⟨_, rfl, ?_⟩))
     go_meet
     case rel => exact ⟨_, (0), ((⟨#[]⟩ : ByteArray)), sv_, H', ⟨by first | omega | exact Nat.le_refl _⟩, ⟨bp_ BK179.out⟩, ⟨bp_ BK180.out⟩, ⟨bes_⟩⟩
  case rest =>
   clear HC10; (try clear c2);(try clear c2b0);(try clear c2b1);(try clear c8b0);(try clear c8b1);(try clear q9);(try clear hx9);(try clear qi9);(try clear z14_0);(try clear z14_1);(try clear z14_2);(try clear y14_0);(try clear y14_1);(try clear y14_2)
   (try clear q9)
   obtain ⟨kq, x5_9, x181000_9, rfl, HA, HJ9, BK179, BK180, HB⟩ := hcut; cases kq with
   | zero => exact absurd HA.out (by simp [spec_l5Part.j0])
   | succ kj9 =>
    have H := HA.out; clear HA; simp only [spec_l5Part.j0] at H
    have HC24 := ak_ H; clear H; go_upto_region 12 with (fail)
    go_cut [35] (fun v35 wc => ∃ (kq : Nat) (x35_23 : Bool), v35 = .bool x35_23 ∧ Aside0 (spec_l5Part.j1 kq a0 x5_9 x35_23 x181000_9 (⟨#[]⟩ : ByteArray) = some (r1, r2, r3, r4)) ∧ Aside0 (kq ≤ kj9) ∧ Aside0 (wc.heap[gb179]? = some (.cells #[.string (⟨#[]⟩ : ByteArray), .string (⟨#[]⟩ : ByteArray), (.slice none 0 0)] 102 (0, 0))) ∧ Aside0 (wc.heap[gb180]? = some (.cells #[.string x181000_9, .string (⟨#[]⟩ : ByteArray), (.slice none 0 0)] 102 (0, 0))) ∧ Aside0 (Below w.heap.size w wc))
    case first =>
     have H := HC24.out; clear HC24; replace H := ied_ H; rcases H with ⟨c25b0, H⟩ | ⟨c25b0, H⟩
     ·(first | rw [c25b0] | (simp only [i64_w, i32_w]; rw [c25b0]) | skip)
      replace H := itd_ H; obtain ⟨c26b0, H⟩ := H; have H' := ak_ H; clear H; have p27 : 0 ≤ (x5_9 : Int) := oda_
      have q27 : x5_9 < (a0.size : Int) := oda_
      have hx27 := bt_at a0 x5_9; replace p27 := eq_true p27; replace q27 := eq_true q27; go_wp2; go_meet
      case rel => exact ⟨_, (((bt a0 x5_9) == 35)), sv_, H', ⟨by have := HJ9.out; first | omega | exact Nat.le_refl _⟩, ⟨bp_ BK179.out⟩, ⟨bp_ BK180.out⟩, ⟨bes_⟩⟩
     ·(first | rw [c25b0] | (simp only [i64_w, i32_w]; rw [c25b0]) | skip)
      have H' := ak_ H; clear H; go_wp2; go_meet
      case rel => exact ⟨_, (false), sv_, H', ⟨by have := HJ9.out; first | omega | exact Nat.le_refl _⟩, ⟨bp_ BK179.out⟩, ⟨bp_ BK180.out⟩, ⟨bes_⟩⟩
    case rest =>
     clear HC24; (try clear c2);(try clear c2b0);(try clear c2b1);(try clear c8b0);(try clear c8b1);(try clear q9);(try clear hx9);(try clear qi9);(try clear z14_0);(try clear z14_1);(try clear z14_2)
     (try clear y14_0);(try clear y14_1);(try clear y14_2);(try clear q9)
     obtain ⟨kq, x35_23, rfl, HA, HJ23, BK179, BK180, HB⟩ := hcut; cases kq with
     | zero => exact absurd HA.out (by simp [spec_l5Part.j1])
     | succ kj23 =>
      have H := HA.out; clear HA; simp only [spec_l5Part.j1] at H
      have HC28 := ak_ H; clear H; go_upto_if 35 with (fail)
      go_cut [5] (fun v5 wc => ∃ (kq : Nat) (x5_27 : Int) (x180000_27 : ByteArray) (x180001_27 : ByteArray) (x181001_27 : ByteArray), v5 = .int .i64 x5_27 ∧ Aside0 (spec_l5Part.j2 kq a0 x5_27 x181000_9 x181001_27 = some (r1, r2, r3, r4)) ∧ Aside0 (kq ≤ kj23) ∧ Aside0 (wc.heap[gb179]? = some (.cells #[.string x180000_27, .string x180001_27, (.slice none 0 0)] 102 (0, 0))) ∧ Aside0 (wc.heap[gb180]? = some (.cells #[.string x181000_9, .string x181001_27, (.slice none 0 0)] 102 (0, 0))) ∧ Aside0 (Below w.heap.size w wc))
      case first =>
       have H := HC28.out; clear HC28; replace H := itb_ H; rcases H with ⟨rfl, H⟩ | ⟨rfl, H⟩
       ·obtain ⟨ji30, hji30⟩ : ∃ j_ : Int, (wrap64 (x5_9 + 1)) = j_ := ⟨_, rfl⟩
        replace H : (if 0 ≤ (ji30) then (if (ji30) ≤ (a0.size : Int) then ((spec_l5Run.f kj23 (a0.extract ((ji30) : Int).toNat a0.size)).bind fun t182 => (if t182 = 0 then (some (x181000_9, (⟨#[]⟩ : ByteArray), ([] : List ByteArray), false)) else (if (ji30) ≤ (wrap64 ((ji30) + t182)) then (if (wrap64 ((ji30) + t182)) ≤ (a0.size : Int) then (spec_l5Part.j2 kj23 a0 (wrap64 (x5_9 + (wrap64 (1 + t182)))) x181000_9 (a0.extract ((ji30) : Int).toNat ((wrap64 ((ji30) + t182)) : Int).toNat)) else (none)) else (none)))) else (none)) else (none)) = some (r1, r2, r3, r4) := by first | (rw [hji30] at H; exact H) | (simp only [hji30] at H ⊢; exact H)
        have hji30w : (IntKind.i64.wrap (x5_9 + 1)) = ji30 := (i64_w _).trans hji30
        replace H := itn_ H; obtain ⟨c31, H⟩ := H; have c31b0 := eq_true c31; have c31b1 := decide_eq_true c31; clear c31; replace H := itn_ H; obtain ⟨c32, H⟩ := H; have c32b0 := eq_true c32; have c32b1 := decide_eq_true c32; clear c32; replace H := bnd_ H; obtain ⟨t182, A33, H⟩ := H; replace H := ite_ H; rcases H with ⟨c34, H⟩ | ⟨c34, H⟩
        ·have c34b0 := beq_iff_eq.mpr c34; have c34b1 := bne_eq_false_iff_eq.mpr c34; clear c34; (first | rw [c34b0] | (simp only [i64_w, i32_w]; rw [c34b0]) | skip)
         simp only [Option.some.injEq, Prod.mk.injEq] at H
         obtain ⟨rfl, rfl, rfl, rfl⟩ := H; go_wp2_with (first | ((with_reducible refine gate_callee (f := 110) rfl ?_); refine goesL_ (some 40) rfl rfl Tryz.func110 (by kernel_rfl) rfl #[.string (a0.extract ((ji30) : Int).toNat a0.size)] rfl (by (try simp only [List.map_toArray, List.map_cons, List.map_nil]); first | done | (simp only [hji30]; rfl) | rfl | (simp only [List.length_drop, List.length_take]; rfl)) ?_; (with_reducible refine (spec_l5Run.calls kj23 (a0.extract ((ji30) : Int).toNat a0.size) t182 _ A33.out).mono ?_); rintro e w' ⟨rfl, ⟨nd, rfl⟩⟩; refine ⟨_, rfl, ?_⟩; (try (rw [drewN_self wc]; generalize hq_ : World.drewN wc _ = wc; have n0_ : Aside0 (wc.heap[gb179]? = some (.cells #[.string (⟨#[]⟩ : ByteArray), .string (⟨#[]⟩ : ByteArray), .slice none 0 0] 102 (0, 0))) := ⟨by rw [← hq_]; exact (bk_ BK179.out)⟩; have n1_ : Aside0 (wc.heap[gb180]? = some (.cells #[.string x181000_9, .string (⟨#[]⟩ : ByteArray), .slice none 0 0] 102 (0, 0))) := ⟨by rw [← hq_]; exact (bk_ BK180.out)⟩; have n2_ : Aside0 (Below w.heap.size w wc) := ⟨by rw [← hq_]; exact bes_⟩; clear BK179 BK180 HB hq_; have BK179 := n0_; have BK180 := n1_; have HB := n2_; clear n0_ n1_ n2_)); have hnb35 := NB180_179.out; have hnc35 := NB179_180.out; obtain ⟨z36_0, z36_1, z36_2, y36_0, y36_1, y36_2⟩ := bcz3 BK180.out; obtain ⟨z37_0, z37_1, z37_2, y37_0, y37_1, y37_2⟩ := bcz3 BK179.out))
         refine bodyPost_ret (results_ct rfl _ _ gb179 102 #[.string x181000_9, .string (⟨#[]⟩ : ByteArray), .slice none 0 0] (0, 0) _ rfl (bp_ BK179.out) Tryz.underlying102 rfl (by kernel_rfl)) rfl ?_
         exact ⟨_, by first | rfl | (simp [errW_none, errW_some] <;> rfl) | (simp only [← hji30]; first | rfl | (simp [errW_none, errW_some] <;> rfl)) | (simp [*, errW_none, errW_some] <;> rfl), by first | exact Kd.R_nil _ _ _ _ _ | exact Kd.N_nil _ _ _ _ _ | exact Kd.V_nil _ _ _ _ _ | exact Kd.Q_nil _ _ _ _ _ | exact Kd.S_nil _ _ _ _ _, bes_⟩
        ·have c34b0 := beq_eq_false_iff_ne.mpr c34; have c34b1 := bne_iff_ne.mpr c34; (first | rw [c34b0] | (simp only [i64_w, i32_w]; rw [c34b0]) | skip)
         have c38b0 := eq_true (oda_ : 0 ≤ (ji30)); replace H := itn_ H; obtain ⟨c39, H⟩ := H; have c39b0 := eq_true c39; have c39b1 := decide_eq_true c39; replace H := itn_ H; obtain ⟨c40, H⟩ := H; have c40b0 := eq_true c40; have c40b1 := decide_eq_true c40; have H' := ak_ H; clear H; go_wp2_with (first | ((with_reducible refine gate_callee (f := 110) rfl ?_); refine goesL_ (some 40) rfl rfl Tryz.func110 (by kernel_rfl) rfl #[.string (a0.extract ((ji30) : Int).toNat a0.size)] rfl (by (try simp only [List.map_toArray, List.map_cons, List.map_nil]); first | done | (simp only [hji30]; rfl) | rfl | (simp only [List.length_drop, List.length_take]; rfl)) ?_; (with_reducible refine (spec_l5Run.calls kj23 (a0.extract ((ji30) : Int).toNat a0.size) t182 _ A33.out).mono ?_); rintro e w' ⟨rfl, ⟨nd, rfl⟩⟩; refine ⟨_, rfl, ?_⟩; (try (rw [drewN_self wc]; generalize hq_ : World.drewN wc _ = wc; have n0_ : Aside0 (wc.heap[gb179]? = some (.cells #[.string (⟨#[]⟩ : ByteArray), .string (⟨#[]⟩ : ByteArray), .slice none 0 0] 102 (0, 0))) := ⟨by rw [← hq_]; exact (bk_ BK179.out)⟩; have n1_ : Aside0 (wc.heap[gb180]? = some (.cells #[.string x181000_9, .string (⟨#[]⟩ : ByteArray), .slice none 0 0] 102 (0, 0))) := ⟨by rw [← hq_]; exact (bk_ BK180.out)⟩; have n2_ : Aside0 (Below w.heap.size w wc) := ⟨by rw [← hq_]; exact bes_⟩; clear BK179 BK180 HB hq_; have BK179 := n0_; have BK180 := n1_; have HB := n2_; clear n0_ n1_ n2_)); have hnb41 := NB180_179.out; have hnc41 := NB179_180.out; obtain ⟨z42_0, z42_1, z42_2, y42_0, y42_1, y42_2⟩ := bcz3 BK180.out))
         go_meet
         case rel => exact ⟨_, (wrap64 (x5_9 + (wrap64 (1 + t182)))), ((⟨#[]⟩ : ByteArray)), ((⟨#[]⟩ : ByteArray)), (a0.extract ((ji30) : Int).toNat ((wrap64 ((ji30) + t182)) : Int).toNat), sv_, H', ⟨by have := HJ9.out; have := HJ23.out; first | omega | exact Nat.le_refl _⟩, ⟨bp_ BK179.out⟩, ⟨bp_ BK180.out⟩, ⟨bes_⟩⟩
       ·have H' := ak_ H; clear H; go_wp2; go_meet
        case rel => exact ⟨_, (x5_9), ((⟨#[]⟩ : ByteArray)), ((⟨#[]⟩ : ByteArray)), ((⟨#[]⟩ : ByteArray)), sv_, H', ⟨by have := HJ9.out; have := HJ23.out; first | omega | exact Nat.le_refl _⟩, ⟨bp_ BK179.out⟩, ⟨bp_ BK180.out⟩, ⟨bes_⟩⟩
      case rest =>
       clear HC28; (try clear c2);(try clear c2b0);(try clear c2b1);(try clear c8b0);(try clear c8b1);(try clear q9);(try clear hx9);(try clear qi9)
       (try clear z14_0);(try clear z14_1);(try clear z14_2);(try clear y14_0);(try clear y14_1);(try clear y14_2)
       (try clear q9)
       obtain ⟨kq, x5_27, x180000_27, x180001_27, x181001_27, rfl, HA, HJ27, BK179, BK180, HB⟩ := hcut; cases kq with
       | zero => exact absurd HA.out (by simp [spec_l5Part.j2])
       | succ kj27 =>
        have H := HA.out; clear HA; simp only [spec_l5Part.j2] at H
        have H' := ak_ H; clear H; go_wp2; go_loopg [5] kj27 (fun kq v5 w' => ∃ (x5_4 : Int) (x180000_4 : ByteArray) (x180001_4 : ByteArray) (x181002_4 : List ByteArray) (u181002 : Value), v5 = .int .i64 x5_4 ∧ Aside0 (spec_l5Part.l0 kq a0 x5_4 x181000_9 x181001_27 x181002_4 = some (r1, r2, r3, r4)) ∧ Aside0 (kq ≤ kj27) ∧ Aside0 (Kd.R Kd.string 9 w' w.heap.size (fun _ => True) u181002 x181002_4) ∧ Aside0 (w'.heap[gb179]? = some (.cells #[.string x180000_4, .string x180001_4, (.slice none 0 0)] 102 (0, 0))) ∧ Aside0 (w'.heap[gb180]? = some (.cells #[.string x181000_9, .string x181001_27, u181002] 102 (0, 0))) ∧ Aside0 (Below w.heap.size w w'))
        case atStart => exact ⟨(x5_27), (x180000_27), (x180001_27), (([] : List ByteArray)), (.slice none 0 0), sv_, H', ⟨Nat.le_refl _⟩, ⟨by first | exact Kd.R_nil _ _ _ _ _ | exact Kd.N_nil _ _ _ _ _ | exact Kd.V_nil _ _ _ _ _ | exact Kd.Q_nil _ _ _ _ _ | exact Kd.S_nil _ _ _ _ _⟩, ⟨bp_ BK179.out⟩, ⟨bp_ BK180.out⟩, ⟨bes_⟩⟩
        case round =>
         clear H'; (try clear c2);(try clear c2b0);(try clear c2b1);(try clear c8b0);(try clear c8b1);(try clear q9);(try clear hx9);(try clear qi9)
         (try clear z14_0);(try clear z14_1);(try clear z14_2);(try clear y14_0);(try clear y14_1);(try clear y14_2)
         (try clear q9)
         obtain ⟨x5_4, x180000_4, x180001_4, x181002_4, u181002, rfl, HA, HK4, HO_181002, BK179, BK180, HB⟩ := hrel; cases gk with
         | zero => exact absurd HA.out (by simp [spec_l5Part.l0])
         | succ k4 =>
          have H := HA.out; clear HA; simp only [spec_l5Part.l0] at H
          have HC43 := ak_ H; clear H; go_upto_region 18 with (fail)
          go_cut [66] (fun v66 wc => ∃ (kq : Nat) (x66_42 : Bool), v66 = .bool x66_42 ∧ Aside0 (spec_l5Part.j4 kq a0 x5_4 x66_42 x181000_9 x181001_27 x181002_4 = some (r1, r2, r3, r4)) ∧ Aside0 (kq ≤ k4) ∧ Aside0 (Kd.R Kd.string 9 wc w.heap.size (fun _ => True) u181002 x181002_4) ∧ Aside0 (wc.heap[gb179]? = some (.cells #[.string x180000_4, .string x180001_4, (.slice none 0 0)] 102 (0, 0))) ∧ Aside0 (wc.heap[gb180]? = some (.cells #[.string x181000_9, .string x181001_27, u181002] 102 (0, 0))) ∧ Aside0 (Below w.heap.size w wc))
          case first =>
           have H := HC43.out; clear HC43; replace H := ied_ H; rcases H with ⟨c44b0, H⟩ | ⟨c44b0, H⟩
           ·(first | rw [c44b0] | (simp only [i64_w, i32_w]; rw [c44b0]) | skip)
            replace H := itd_ H; obtain ⟨c45b0, H⟩ := H; have H' := ak_ H; clear H; have p46 : 0 ≤ (x5_4 : Int) := oda_
            have q46 : x5_4 < (a0.size : Int) := oda_
            have hx46 := bt_at a0 x5_4; replace p46 := eq_true p46; replace q46 := eq_true q46; go_wp2; go_meet
            case rel => exact ⟨_, (((bt a0 x5_4) == 46)), sv_, H', ⟨by have := HJ9.out; have := HJ23.out; have := HJ27.out; have := HK4.out; first | omega | exact Nat.le_refl _⟩, ⟨kdR_ HO_181002.out⟩, ⟨bp_ BK179.out⟩, ⟨bp_ BK180.out⟩, ⟨bes_⟩⟩
           ·(first | rw [c44b0] | (simp only [i64_w, i32_w]; rw [c44b0]) | skip)
            have H' := ak_ H; clear H; go_wp2; go_meet
            case rel => exact ⟨_, (false), sv_, H', ⟨by have := HJ9.out; have := HJ23.out; have := HJ27.out; have := HK4.out; first | omega | exact Nat.le_refl _⟩, ⟨kdR_ HO_181002.out⟩, ⟨bp_ BK179.out⟩, ⟨bp_ BK180.out⟩, ⟨bes_⟩⟩
          case rest =>
           clear HC43; (try clear c2);(try clear c2b0);(try clear c2b1);(try clear c8b0);(try clear c8b1);(try clear q9);(try clear hx9);(try clear qi9)
           (try clear z14_0);(try clear z14_1);(try clear z14_2);(try clear y14_0);(try clear y14_1);(try clear y14_2)
           (try clear q9)
           obtain ⟨kq, x66_42, rfl, HA, HJ42, HO_181002, BK179, BK180, HB⟩ := hcut; cases kq with
           | zero => exact absurd HA.out (by simp [spec_l5Part.j4])
           | succ kj42 =>
            have H := HA.out; clear HA; simp only [spec_l5Part.j4] at H
            replace H := itb_ H; rcases H with ⟨rfl, H⟩ | ⟨rfl, H⟩
            ·obtain ⟨ji48, hji48⟩ : ∃ j_ : Int, (wrap64 (x5_4 + 1)) = j_ := ⟨_, rfl⟩
             replace H : (if 0 ≤ (ji48) then (if (ji48) ≤ (a0.size : Int) then ((spec_l5Run.f kj42 (a0.extract ((ji48) : Int).toNat a0.size)).bind fun t183 => (if t183 = 0 then (some (x181000_9, x181001_27, x181002_4, false)) else (if (x181002_4.length : Int) = 4 then (some (x181000_9, x181001_27, x181002_4, false)) else (if (ji48) ≤ (wrap64 ((ji48) + t183)) then (if (wrap64 ((ji48) + t183)) ≤ (a0.size : Int) then (if x181002_4.length < 8796093022208 then (spec_l5Part.l0 kj42 a0 (wrap64 (x5_4 + (wrap64 (1 + t183)))) x181000_9 x181001_27 (x181002_4 ++ [a0.extract ((ji48) : Int).toNat ((wrap64 ((ji48) + t183)) : Int).toNat])) else (none)) else (none)) else (none))))) else (none)) else (none)) = some (r1, r2, r3, r4) := by first | (rw [hji48] at H; exact H) | (simp only [hji48] at H ⊢; exact H)
             have hji48w : (IntKind.i64.wrap (x5_4 + 1)) = ji48 := (i64_w _).trans hji48
             replace H := itn_ H; obtain ⟨c49, H⟩ := H; have c49b0 := eq_true c49; have c49b1 := decide_eq_true c49; clear c49; replace H := itn_ H; obtain ⟨c50, H⟩ := H; have c50b0 := eq_true c50; have c50b1 := decide_eq_true c50; clear c50; replace H := bnd_ H; obtain ⟨t183, A51, H⟩ := H; replace H := ite_ H; rcases H with ⟨c52, H⟩ | ⟨c52, H⟩
             ·have c52b0 := beq_iff_eq.mpr c52; have c52b1 := bne_eq_false_iff_eq.mpr c52; clear c52; simp only [Option.some.injEq, Prod.mk.injEq] at H
              obtain ⟨rfl, rfl, rfl, rfl⟩ := H; go_wp2_with (first | ((with_reducible refine gate_callee (f := 110) rfl ?_); refine goesL_ (some 71) rfl rfl Tryz.func110 (by kernel_rfl) rfl #[.string (a0.extract ((ji48) : Int).toNat a0.size)] rfl (by (try simp only [List.map_toArray, List.map_cons, List.map_nil]); first | done | (simp only [hji48]; rfl) | rfl | (simp only [List.length_drop, List.length_take]; rfl)) ?_; (with_reducible refine (spec_l5Run.calls kj42 (a0.extract ((ji48) : Int).toNat a0.size) t183 _ A51.out).mono ?_); rintro e w' ⟨rfl, ⟨nd, rfl⟩⟩; refine ⟨_, rfl, ?_⟩; (try (rw [drewN_self wc]; generalize hq_ : World.drewN wc _ = wc; have n0_ : Aside0 (Kd.R Kd.string 9 wc w.heap.size (fun _ => True) u181002 x181002_4) := ⟨by rw [← hq_]; exact (kdR_ HO_181002.out)⟩; have n1_ : Aside0 (wc.heap[gb179]? = some (.cells #[.string x180000_4, .string x180001_4, .slice none 0 0] 102 (0, 0))) := ⟨by rw [← hq_]; exact (bk_ BK179.out)⟩; have n2_ : Aside0 (wc.heap[gb180]? = some (.cells #[.string x181000_9, .string x181001_27, u181002] 102 (0, 0))) := ⟨by rw [← hq_]; exact (bk_ BK180.out)⟩; have n3_ : Aside0 (Below w.heap.size w wc) := ⟨by rw [← hq_]; exact bes_⟩; clear HO_181002 BK179 BK180 HB hq_; have HO_181002 := n0_; have BK179 := n1_; have BK180 := n2_; have HB := n3_; clear n0_ n1_ n2_ n3_)); have hnb53 := NB180_179.out; have hnc53 := NB179_180.out; obtain ⟨z54_0, z54_1, z54_2, y54_0, y54_1, y54_2⟩ := bcz3 BK180.out; obtain ⟨z55_0, z55_1, z55_2, y55_0, y55_1, y55_2⟩ := bcz3 BK179.out; obtain ⟨Ao56, co56, eo56⟩ := Kd.R_slice HO_181002.out; subst eo56))
              refine bodyPost_ret (results_ct rfl _ _ gb179 102 #[.string x181000_9, .string x181001_27, .slice Ao56 x181002_4.length co56] (0, 0) _ rfl (bp_ BK179.out) Tryz.underlying102 rfl (by kernel_rfl)) rfl ?_
              exact ⟨_, by first | rfl | (simp [errW_none, errW_some] <;> rfl) | (simp only [← hji48]; first | rfl | (simp [errW_none, errW_some] <;> rfl)) | (simp [*, errW_none, errW_some] <;> rfl), by (with_reducible repeat (first | apply Kd.R_alloc | apply Kd.R_drewN | apply Kd.R_drew)); exact Kd.R_mono (Kd.R_far (Kd.R_far (Kd.R_far (Kd.R_types HO_181002.out BK179.out (by decide)) (fun _ hk => hk.2) _) (fun _ hk => hk.2) _) (fun _ hk => hk.2) _) (fun _ hk => trivial), bes_⟩
             ·have c52b0 := beq_eq_false_iff_ne.mpr c52; have c52b1 := bne_iff_ne.mpr c52; replace H := ite_ H; rcases H with ⟨c57, H⟩ | ⟨c57, H⟩
              ·have c57b0 := beq_iff_eq.mpr c57; have c57b1 := bne_eq_false_iff_eq.mpr c57; clear c57; simp only [Option.some.injEq, Prod.mk.injEq] at H
               obtain ⟨rfl, rfl, rfl, rfl⟩ := H; go_wp2_with (first | ((with_reducible refine gate_callee (f := 110) rfl ?_); refine goesL_ (some 71) rfl rfl Tryz.func110 (by kernel_rfl) rfl #[.string (a0.extract ((ji48) : Int).toNat a0.size)] rfl (by (try simp only [List.map_toArray, List.map_cons, List.map_nil]); first | done | (simp only [hji48]; rfl) | rfl | (simp only [List.length_drop, List.length_take]; rfl)) ?_; (with_reducible refine (spec_l5Run.calls kj42 (a0.extract ((ji48) : Int).toNat a0.size) t183 _ A51.out).mono ?_); rintro e w' ⟨rfl, ⟨nd, rfl⟩⟩; refine ⟨_, rfl, ?_⟩; (try (rw [drewN_self wc]; generalize hq_ : World.drewN wc _ = wc; have n0_ : Aside0 (Kd.R Kd.string 9 wc w.heap.size (fun _ => True) u181002 x181002_4) := ⟨by rw [← hq_]; exact (kdR_ HO_181002.out)⟩; have n1_ : Aside0 (wc.heap[gb179]? = some (.cells #[.string x180000_4, .string x180001_4, .slice none 0 0] 102 (0, 0))) := ⟨by rw [← hq_]; exact (bk_ BK179.out)⟩; have n2_ : Aside0 (wc.heap[gb180]? = some (.cells #[.string x181000_9, .string x181001_27, u181002] 102 (0, 0))) := ⟨by rw [← hq_]; exact (bk_ BK180.out)⟩; have n3_ : Aside0 (Below w.heap.size w wc) := ⟨by rw [← hq_]; exact bes_⟩; clear HO_181002 BK179 BK180 HB hq_; have HO_181002 := n0_; have BK179 := n1_; have BK180 := n2_; have HB := n3_; clear n0_ n1_ n2_ n3_)); have hnb58 := NB180_179.out; have hnc58 := NB179_180.out; obtain ⟨z59_0, z59_1, z59_2, y59_0, y59_1, y59_2⟩ := bcz3 BK180.out; obtain ⟨Ao60, co60, eo60⟩ := Kd.R_slice HO_181002.out; subst eo60; obtain ⟨z61_0, z61_1, z61_2, y61_0, y61_1, y61_2⟩ := bcz3 BK179.out))
               refine bodyPost_ret (results_ct rfl _ _ gb179 102 #[.string x181000_9, .string x181001_27, .slice Ao60 x181002_4.length co60] (0, 0) _ rfl (bp_ BK179.out) Tryz.underlying102 rfl (by kernel_rfl)) rfl ?_
               exact ⟨_, by first | rfl | (simp [errW_none, errW_some] <;> rfl) | (simp only [← hji48]; first | rfl | (simp [errW_none, errW_some] <;> rfl)) | (simp [*, errW_none, errW_some] <;> rfl), by (with_reducible repeat (first | apply Kd.R_alloc | apply Kd.R_drewN | apply Kd.R_drew)); exact Kd.R_mono (Kd.R_far (Kd.R_far (Kd.R_far (Kd.R_types HO_181002.out BK179.out (by decide)) (fun _ hk => hk.2) _) (fun _ hk => hk.2) _) (fun _ hk => hk.2) _) (fun _ hk => trivial), bes_⟩
              ·have c57b0 := beq_eq_false_iff_ne.mpr c57; have c57b1 := bne_iff_ne.mpr c57; have c62b0 := eq_true (oda_ : 0 ≤ (ji48)); replace H := itn_ H; obtain ⟨c63, H⟩ := H; have c63b0 := eq_true c63; have c63b1 := decide_eq_true c63; replace H := itn_ H; obtain ⟨c64, H⟩ := H; have c64b0 := eq_true c64; have c64b1 := decide_eq_true c64; replace H := itn_ H; obtain ⟨c65, H⟩ := H; have LMc65 := ak_ c65; clear c65; obtain ⟨y184, hy184⟩ : ∃ y_ : List ByteArray, y_ = (x181002_4 ++ [a0.extract ((ji48) : Int).toNat ((wrap64 ((ji48) + t183)) : Int).toNat]) := ⟨_, rfl⟩
               replace H : (spec_l5Part.l0 kj42 a0 (wrap64 (x5_4 + (wrap64 (1 + t183)))) x181000_9 x181001_27 y184) = some (r1, r2, r3, r4) := by first | (rw [hy184]; with_reducible exact H) | (have H2_ := (Option.bind_some _ _).symm.trans H; rw [hy184]; with_reducible exact H2_) | (have H2_ := (Option.bind_some _ _).symm.trans H; with_reducible exact H2_) | with_reducible exact H | (rw [hy184]; exact H) | exact H
               have Ny184 := ak_ hy184; clear hy184; have H' := ak_ H; clear H; try go_wp2_with (first | ((with_reducible refine gate_callee (f := 110) rfl ?_); refine goesL_ (some 71) rfl rfl Tryz.func110 (by kernel_rfl) rfl #[.string (a0.extract ((ji48) : Int).toNat a0.size)] rfl (by (try simp only [List.map_toArray, List.map_cons, List.map_nil]); first | done | (simp only [hji48]; rfl) | rfl | (simp only [List.length_drop, List.length_take]; rfl)) ?_; (with_reducible refine (spec_l5Run.calls kj42 (a0.extract ((ji48) : Int).toNat a0.size) t183 _ A51.out).mono ?_); rintro e w' ⟨rfl, ⟨nd, rfl⟩⟩; refine ⟨_, rfl, ?_⟩; (try (rw [drewN_self wc]; generalize hq_ : World.drewN wc _ = wc; have n0_ : Aside0 (Kd.R Kd.string 9 wc w.heap.size (fun _ => True) u181002 x181002_4) := ⟨by rw [← hq_]; exact (kdR_ HO_181002.out)⟩; have n1_ : Aside0 (wc.heap[gb179]? = some (.cells #[.string x180000_4, .string x180001_4, .slice none 0 0] 102 (0, 0))) := ⟨by rw [← hq_]; exact (bk_ BK179.out)⟩; have n2_ : Aside0 (wc.heap[gb180]? = some (.cells #[.string x181000_9, .string x181001_27, u181002] 102 (0, 0))) := ⟨by rw [← hq_]; exact (bk_ BK180.out)⟩; have n3_ : Aside0 (Below w.heap.size w wc) := ⟨by rw [← hq_]; exact bes_⟩; clear HO_181002 BK179 BK180 HB hq_; have HO_181002 := n0_; have BK179 := n1_; have BK180 := n2_; have HB := n3_; clear n0_ n1_ n2_ n3_)); have hnb66 := NB180_179.out; have hnc66 := NB179_180.out; obtain ⟨z67_0, z67_1, z67_2, y67_0, y67_1, y67_2⟩ := bcz3 BK180.out; obtain ⟨Ao68, co68, eo68⟩ := Kd.R_slice HO_181002.out; subst eo68))
               have n_ := an4_ (Kd.R_drew HO_181002.out) (blk_drew BK179.out) (blk_drew BK180.out) (below_drew1 HB.out); clear HO_181002 BK179 BK180 HB; obtain ⟨HO_181002, BK179, BK180, HB⟩ := n_; refine start_ (n := 14) (S := fun w' => w'.cell? ⟨gb180, 0, none⟩ = some (.string x181000_9) ∧ w'.cell? ⟨gb180, 1, none⟩ = some (.string x181001_27) ∧ w'.cell? ⟨gb180, 2, none⟩ = some (.slice Ao68 x181002_4.length co68)) (ds := [13]) #[false, false, false, false, false, false, false, false, false, false, false, false, false, false] (by kernel_rfl) rfl rfl ⟨(blk_cell BK180.out 0).trans rfl, (blk_cell BK180.out 1).trans rfl, (blk_cell BK180.out 2).trans rfl⟩ (fun hHeld => ?_); refine with_tabW spec_l5Part.tab22 spec_l5Part.bits22 (fun HT_ HW_ => ?_)
               generalize wc.drew = w69 at HO_181002 BK179 BK180 HB hHeld ⊢
               refine tkp_ 0 (some 81) #[true, false, false, false, false, false, false, false, false, false, false, false, false, false] (any_of HT_.out (by kernel_rfl)) ?_
               refine tkp_ 2 (some 83) #[true, false, true, false, false, false, false, false, false, false, false, false, false, false] (any_of HT_.out (by kernel_rfl)) ?_
               refine tkp_ 3 (some 84) #[true, false, true, true, false, false, false, false, false, false, false, false, false, false] (any_of HT_.out (by kernel_rfl)) ?_
               refine tkp_ 4 (some 85) #[true, false, true, true, true, false, false, false, false, false, false, false, false, false] (any_of HT_.out (by kernel_rfl)) ?_
               refine tkp_ 5 (some 86) #[true, false, true, true, true, true, false, false, false, false, false, false, false, false] (any_of HT_.out (by kernel_rfl)) ?_
               refine tkp_ 6 (some 87) #[true, false, true, true, true, true, true, false, false, false, false, false, false, false] (any_of HT_.out (by kernel_rfl)) ?_
               refine tkp_ 7 (some 88) #[true, false, true, true, true, true, true, true, false, false, false, false, false, false] (any_of HT_.out (by kernel_rfl)) ?_
               refine tkp_ 8 (some 89) #[true, false, true, true, true, true, true, true, true, false, false, false, false, false] (any_of HT_.out (by kernel_rfl)) ?_
               refine tkp_ 9 (some 90) #[true, false, true, true, true, true, true, true, true, true, false, false, false, false] (any_of HT_.out (by kernel_rfl)) ?_
               refine tkt_ 1 (some 82) #[true, true, true, true, true, true, true, true, true, true, false, false, false, false] (take_ofW HT_.out HW_.out (by kernel_rfl)) hHeld ?_
               refine one_ (i := 10) (N := some 91) #[true, true, true, true, true, true, true, true, true, true, true, false, false, false] rfl rfl (one_of HT_.out (by kernel_rfl)) (by decide) (fun K hK => ?_)
               refine value_ (w1 := ?_) (v := ?_) (by rfl) rfl ?_ ?_
               rotate_left 2
               ·go_simp
                constructor
                ·rfl
                ·rfl
               refine hK.out _ _ ⟨(blk_cell (blk_alloc BK180.out _) 0).trans rfl, (blk_cell (blk_alloc BK180.out _) 1).trans rfl, (blk_cell (blk_alloc BK180.out _) 2).trans rfl⟩ (fun hHeld => ?_)
               clear hK K; refine norm_ (a' := ?_) ?_ ?_
               rotate_left
               ·show Act.put _ (some 91) _ = _
                simp only [Act.put, List.setIfInBounds_toArray, List.set_cons_zero, List.set_cons_succ, i64_w, i32_w]
                rfl
               refine one_ (i := 11) (N := some 92) #[true, true, true, true, true, true, true, true, true, true, true, true, false, false] rfl rfl (one_of HT_.out (by kernel_rfl)) (by decide) (fun K hK => ?_)
               refine Kd.R_append_step Kd.string (w0 := w) w.heap.size (by rfl) (.tmp 82) (.tmp 91) 92 9 (.string ⟨#[]⟩) 16 rfl Tryz.underlying92 info9 rfl (by decide) (by omega) (.slice Ao68 x181002_4.length co68) x181002_4 (a0.extract ((ji48) : Int).toNat ((wrap64 ((ji48) + t183)) : Int).toNat) [.string (a0.extract ((ji48) : Int).toNat ((wrap64 ((ji48) + t183)) : Int).toNat)] (fun _ => True) (fun _ => False) rfl rfl ?aP (fun _ hk => hk.elim) ?aF ?aO ?aB ?aS ?aL ?_
               (case aP => exact rfl)
               (case aB => exact bes_)
               (case aF => exact (fun _ _ => trivial))
               (case aO => exact (kdR_ HO_181002.out))
               (case aS => exact (below_size bes_))
               (case aL => have := LMc65.out; omega)
               intro v185 w70 ho hb hg hat; rw [← Ny184.out] at ho; have n_ := an4_ (blk_grown (g := gb179) (o := .cells #[.string x180000_4, .string x180001_4, .slice none 0 0] 102 (0, 0)) (bk_ BK179.out) hg (Kd.R_ne HO_181002.out BK179.out (by decide))) (blk_grown (g := gb180) (o := .cells #[.string x181000_9, .string x181001_27, .slice Ao68 x181002_4.length co68] 102 (0, 0)) (bk_ BK180.out) hg (Kd.R_ne HO_181002.out BK180.out (by decide))) (hb) (ho); clear BK179 BK180 HB HO_181002; obtain ⟨BK179, BK180, HB, HO186⟩ := n_; clear ho hb hg hat; obtain ⟨Ao71, co71, eo71⟩ := Kd.R_slice HO186.out; (first | subst eo71 | (injection eo71 with f1_ f2_ f3_; have f4_ := f1_.symm; have f5_ := f3_.symm; clear f1_ f2_ f3_; subst f4_; subst f5_))
               refine hK.out _ _ ⟨(blk_cell BK180.out 0).trans rfl, (blk_cell BK180.out 1).trans rfl, (blk_cell BK180.out 2).trans rfl⟩ (fun hHeld => ?_)
               clear hK K; refine norm_ (a' := ?_) ?_ ?_
               rotate_left
               ·show Act.put _ (some 92) _ = _
                simp only [Act.put, List.setIfInBounds_toArray, List.set_cons_zero, List.set_cons_succ, i64_w, i32_w]
                rfl
               refine tkp_ 12 (some 93) #[true, true, true, true, true, true, true, true, true, true, true, true, true, false] (any_of HT_.out (by kernel_rfl)) ?_
               refine last_ (i := 13) (N := none) #[true, true, true, true, true, true, true, true, true, true, true, true, true, true] rfl rfl (one_of HT_.out (by kernel_rfl)) (by decide) (fun K hK => ?_)
               have hs72 : w70.cell? ⟨gb180, 2, none⟩ = some (.slice Ao68 x181002_4.length co68) := (blk_cell BK180.out 2).trans rfl
               have hfs72 := blk_frozen BK180.out 2; have hns72_0 := NB179_180.out; have hms72_0 := NB180_179.out; refine skip_ (w1 := ?_) (by rfl) rfl ?_ ?_
               rotate_left
               ·go_simp
                rfl
               refine hK.out _ _ ?_
               clear hK K; refine done_ (done_of HT_.out (by kernel_rfl)) ?_
               try go_wp2
               go_roundg kj42
               case measure => have := HJ9.out; have := HJ23.out; have := HJ27.out; have := HK4.out; have := HJ42.out; omega
               case rel => exact ⟨(wrap64 (x5_4 + (wrap64 (1 + t183)))), (x180000_4), (x180001_4), (y184), (.slice Ao71 y184.length co71), sv_, H', ⟨by have := HJ9.out; have := HJ23.out; have := HJ27.out; have := HK4.out; have := HJ42.out; omega⟩, ⟨by (with_reducible repeat (first | apply Kd.R_alloc | apply Kd.R_drewN | apply Kd.R_drew)); exact Kd.R_mono (Kd.R_far (Kd.R_types HO186.out BK180.out (by decide)) (fun _ hk => hk.2) _) (fun _ hk => trivial)⟩, ⟨bp_ BK179.out⟩, ⟨bp_ BK180.out⟩, ⟨bes_⟩⟩
            ·simp only [Option.some.injEq, Prod.mk.injEq] at H
             obtain ⟨rfl, rfl, rfl, rfl⟩ := H; have hnb73 := NB180_179.out; have hnc73 := NB179_180.out; obtain ⟨z74_0, z74_1, z74_2, y74_0, y74_1, y74_2⟩ := bcz3 BK180.out; obtain ⟨z75_0, z75_1, z75_2, y75_0, y75_1, y75_2⟩ := bcz3 BK179.out; obtain ⟨Ao76, co76, eo76⟩ := Kd.R_slice HO_181002.out; subst eo76; go_wp2; refine bodyPost_ret (results_ct rfl _ _ gb179 102 #[.string x181000_9, .string x181001_27, .slice Ao76 x181002_4.length co76] (0, 0) _ rfl (bp_ BK179.out) Tryz.underlying102 rfl (by kernel_rfl)) rfl ?_
             exact ⟨_, er_, by (with_reducible repeat (first | apply Kd.R_alloc | apply Kd.R_drewN | apply Kd.R_drew)); exact Kd.R_mono (Kd.R_far (Kd.R_far (Kd.R_far (Kd.R_types HO_181002.out BK179.out (by decide)) (fun _ hk => hk.2) _) (fun _ hk => hk.2) _) (fun _ hk => hk.2) _) (fun _ hk => trivial), bes_⟩

end Go.Proofs.YtooilehdljeepaaGreatDoor.PFnExactSheetIn
