-- Laid by a program of this session out of the translation (its own run of the print). Lean checks it.
import Derived.Test.YtooilehdljeepaaDoorProg
import Derived.Below
import Derived.Deep.Draws
import Derived.Deep.AppendLies
import Derived.Maps.AppendAt
import Derived.OwnWalk
import Derived.Laws.BytesArg
import Derived.Laws.MakeOwn
import Derived.Laws.OwnMore
import Derived.Deep.OwnRows
import Derived.Tactics
import Derived.Lib.ConvBytes
import Derived.Laws.Slices
import Derived.WalkKit
import Derived.KernelRfl
import Derived.RowKit3
import Derived.Deep.LoopGhost
import Derived.Deep.QuietTactic
import Derived.BigQuiet
import Derived.WideLaws
import Derived.Deep.DeepCutAuto
import Derived.Deep.CutBlock
import Derived.Deep.RegionHeld3
import Derived.Laws.Rows
import Derived.Lib.AppendStr
import Derived.ArgAppend
import Derived.Laws.IdiomCopy
import Derived.OrdersHeld
import Derived.Laws.BitsLemmas
import Derived.RowKit
import Derived.Lib.ConvBytes
import Derived.Shelf.Strings.SlTrimAsciiWalks
import Derived.Shelf.Strings.AsciiSet
import Derived.Shelf.Strings.IndexAnyAll
import Derived.Shelf.Lays
import Derived.BigQuiet
import Derived.Shelf.Strings.Cut
import Derived.Shelf.Strings.Split
import Derived.Test.YtooilehdljeepaaDoorWWords
import Derived.Test.YtooilehdljeepaaDoorWLast
import Derived.Test.YtooilehdljeepaaDoorWTab
import Derived.Test.YtooilehdljeepaaDoorWFour
import Derived.Test.YtooilehdljeepaaDoorWQPut
import Derived.Test.YtooilehdljeepaaDoorWApart
import Derived.Test.YtooilehdljeepaaDoorWArr
import Derived.Test.YtooilehdljeepaaDoorWZeros
import Derived.Test.YtooilehdljeepaaDoorWFoot
import Derived.Test.YtooilehdljeepaaDoorWKept
import Derived.Test.YtooilehdljeepaaDoorWShare
import Derived.Test.YtooilehdljeepaaDoorWN
import Derived.Test.YtooilehdljeepaaDoorWFootNe
import Derived.Test.YtooilehdljeepaaDoorWAt
import Derived.Test.YtooilehdljeepaaDoorWEqStruct
import Derived.Test.YtooilehdljeepaaDoorWRepsOne
import Derived.Test.YtooilehdljeepaaDoorWInv
import Derived.Test.YtooilehdljeepaaDoorWInvWords
import Derived.Test.YtooilehdljeepaaDoorWGuard
import Derived.Test.YtooilehdljeepaaDoorWNEv
import Derived.Test.YtooilehdljeepaaDoorWMore
namespace Go.Proofs.YtooilehdljeepaaDoor.PFnExactReadColor
open Go.RowKit Go.Proofs.YtooilehdljeepaaDoorW.PrintWords Go.Proofs.YtooilehdljeepaaDoorW.PrintLast Go.Proofs.YtooilehdljeepaaDoorW.PrintMore
attribute [local go_sem] max2_int min2_int max_two min_two max_three min_three max_four min_four   -- for this text's walks alone
set_option linter.unusedVariables false
set_option linter.unusedSimpArgs false



def errW : Option Int → Value
 | none => .nilIface
 | some c => .iface 0 (.int .i64 c)
theorem errW_none : errW none = .nilIface := rfl
theorem errW_some (c : Int) : errW (some c) = .iface 0 (.int .i64 c) := rfl

theorem conv_F_ (W : World) (e : TypeId) (s : ByteArray) (hs : s.size ≤ 9223372036854775807) : Kd.F (Kd.int .u8) (Lib.bytesWorld W e s) (fun k => W.heap.size ≤ k) (some ⟨W.heap.size, 0, none⟩) s.size (bytesOf s) := by
 intro W' hW'
 have hb : W'.heap[W.heap.size]? = (Lib.bytesWorld W e s).heap[W.heap.size]? := hW' W.heap.size (Nat.le_refl _) (by rw [Lib.bytesWorld_size]; omega)
 have hr := bytes_reads W e s hs
 have hr' : ReadsInt W' .u8 (some ⟨W.heap.size, 0, none⟩) s.size (bytesOf s) := by
  refine ⟨hr.1, hr.2.1, fun h0 => ?_⟩
  obtain ⟨ad, e1, hc⟩ := hr.2.2 h0
  injection e1 with e1
  subst e1
  refine ⟨_, rfl, fun j hj => ?_⟩
  rw [← hc j hj]
  show World.cell? W' _ = World.cell? _ _
  rw [add_plain]
  unfold World.cell?
  rw [hb]
 exact Kd.C_of_reads (d := (0 : Int)) (h1 := fun _ => rfl) hr'
theorem V_conv_ {P : Program} {ops : Array Oper} {o : Oper} {rest : List Oper} {a : Act} {Q : Exit → Act → World → Prop} {W : World} (e : Nat) (hgd : o.guard = none) {N : Tmp} (_hd : o.dst = some N) (src dst : TypeId) (x : Operand) (ho : o.op = .convert src dst x)
  (s : ByteArray) (hx : a.eval x = .string s) {u : TypeDesc} (hs : P.underlying src = some u) (hds : P.underlying dst = some (.slice e)) (he : P.underlying e = some (.int .u8)) (hl : s.size ≤ 9223372036854775807)
  (h : ∀ v1 w1, Kd.V (Kd.int .u8) e w1 W.heap.size (fun k => W.heap.size ≤ k) v1 (bytesOf s) → Below W.heap.size W w1 → True → True → wpList P ops Q rest (a.put o.dst v1) w1) : wpList P ops Q (o :: rest) a W := by
 have hr := print_bytes (P := P) src dst e hs hds he s W
 have hV : Kd.V (Kd.int .u8) e (Lib.bytesWorld W e s) W.heap.size (fun k => W.heap.size ≤ k) (.slice (some ⟨W.heap.size, 0, none⟩) s.size (grownCap W s.size 0 e)) (bytesOf s) := by
  have hg := grownCap_ge W s.size 0 e
  have h1 := Kd.V_mk (d := Kd.int .u8) (e := e) (base := W.heap.size) (c := grownCap W s.size 0 e) (W := Lib.bytesWorld W e s) (ok := fun k => W.heap.size ≤ k) (A := some ⟨W.heap.size, 0, none⟩) (xs := bytesOf s) (by rw [bytesOf_length]; exact hg) (by rw [bytesOf_length]; exact conv_F_ W e s hl)
  rw [bytesOf_length] at h1
  exact h1
 refine Kd.event_run hgd ?_ (h _ _ hV (bytes_below (Below.refl _ _) (Nat.le_refl _) e s) trivial trivial)
 simp [execOp, ho, hx, hr]

/-- a row of bytes of one's own whose block bears a mark behind its end ([]byte(s)). -/
def LowRow (g e : Nat) (w : World) (xs : List Int) : Prop := ∃ cur : Array Value, w.heap[g]? = some (.cells cur e (cur.size, cur.size + 1)) ∧ xs.length ≤ cur.size ∧ ∀ j, j < xs.length → cur[j]? = some (.int .u8 (xs.getD j 0))
theorem low_cell {g e : Nat} {w : World} {xs : List Int} (h : LowRow g e w xs) (i : Int) (h0 : 0 ≤ i) (h1 : i < xs.length) : w.cell? ⟨g, i.toNat, none⟩ = some (.int .u8 (rd xs i)) ∧ w.frozen? ⟨g, i.toNat, none⟩ = false := by
 obtain ⟨cur, hc, hl, hx⟩ := h
 have hi : i.toNat < xs.length := by omega
 constructor
 ·unfold World.cell?
  simp only [hc]
  simpa [rd] using hx i.toNat hi
 ·unfold World.frozen?
  simp only [hc]
  have : ¬ cur.size ≤ i.toNat := by omega
  simp [this]
theorem low_set {g e : Nat} {w : World} {xs : List Int} (h : LowRow g e w xs) (i : Int) (h0 : 0 ≤ i) (h1 : i < xs.length) (x : Int) : LowRow g e (w.setCell ⟨g, i.toNat, none⟩ (.int .u8 x)) (xs.set i.toNat x) := by
 obtain ⟨cur, hc, hl, hx⟩ := h
 refine ⟨cur.setIfInBounds i.toNat (.int .u8 x), ?_, by simpa using hl, fun j hj => ?_⟩
 ·have e1 : (w.setCell ⟨g, i.toNat, none⟩ (.int .u8 x)).heap[g]? = some (.cells (cur.setIfInBounds i.toNat (.int .u8 x)) e (cur.size, cur.size + 1)) := by
   unfold World.setCell
   simp [Array.getElem?_modify, hc]
  rw [e1]; simp
 ·rw [List.length_set] at hj
  by_cases hij : j = i.toNat
  ·subst hij
   rw [Array.getElem?_setIfInBounds_self_of_lt (by omega), List.getD_eq_getElem?_getD, List.getElem?_set_self (by omega)]; rfl
  ·rw [Array.getElem?_setIfInBounds_ne (by omega), List.getD_eq_getElem?_getD, List.getElem?_set_ne (by omega), ← List.getD_eq_getElem?_getD]
   exact hx j hj
theorem low_of_conv (W : World) (e : Nat) (s : ByteArray) : LowRow W.heap.size e (Lib.bytesWorld W e s) (bytesOf s) := by
 have hn := Lib.bytesWorld_at_new W e s
 have key : ∀ j, j < s.size → (Lib.bytesCells W e s)[j]? = some (.int .u8 (s.data.toList.getD j 0).toNat) := by
  intro j hj
  have hc := Lib.bytesWorld_cell W e s j hj
  unfold World.cell? at hc
  simp only [hn] at hc
  simpa using hc
 have hl : (bytesOf s).length = s.size := bytesOf_length s
 refine ⟨Lib.bytesCells W e s, hn, ?_, fun j hj => ?_⟩
 ·rw [hl]
  by_cases h0 : s.size = 0
  ·omega
  ·have h1 := key (s.size - 1) (by omega)
   have h2 := (Array.getElem?_eq_some_iff.1 h1).1
   omega
 ·rw [hl] at hj
  rw [key j hj]
  have hj2 : j < s.data.toList.length := by rw [Lib.size_eq s] at hj; exact hj
  unfold bytesOf
  rw [List.getD_eq_getElem?_getD, List.getD_eq_getElem?_getD, List.getElem?_map, List.getElem?_eq_getElem hj2]
  rfl
theorem low_reads {g e : Nat} {w : World} {xs : List Int} {n : Nat} (h : LowRow g e w xs) (hn : xs.length = n) (hm : n ≤ 9223372036854775807) : ReadsInt w .u8 (some ⟨g, 0, none⟩) n xs := by
 refine ⟨hn, hm, fun _ => ⟨_, rfl, fun j hj => ?_⟩⟩
 rw [add_plain]
 have := (low_cell h (j : Int) (by omega) (by omega)).1
 rw [rd, Int.toNat_natCast] at this
 exact this
theorem low_conv_ {P : Program} {ops : Array Oper} {o : Oper} {rest : List Oper} {a : Act} {Q : Exit → Act → World → Prop} {W : World} (e : Nat) (hgd : o.guard = none) {N : Tmp} (_hd : o.dst = some N) (src dst : TypeId) (x : Operand) (ho : o.op = .convert src dst x)
  (s : ByteArray) (hx : a.eval x = .string s) {u : TypeDesc} (hs : P.underlying src = some u) (hds : P.underlying dst = some (.slice e)) (he : P.underlying e = some (.int .u8))
  (h : ∀ g w1 c, W.heap.size ≤ g → LowRow g e w1 (bytesOf s) → Below W.heap.size W w1 → wpList P ops Q rest (a.put o.dst (.slice (some ⟨g, 0, none⟩) s.size c)) w1) : wpList P ops Q (o :: rest) a W := by
 have hr := print_bytes (P := P) src dst e hs hds he s W
 refine Kd.event_run hgd ?_ (h W.heap.size _ (grownCap W s.size 0 e) (Nat.le_refl _) (low_of_conv W e s) (bytes_below (Below.refl _ _) (Nat.le_refl _) e s))
 simp [execOp, ho, hx, hr]
def lowC (x : Int) : Int := if 65 ≤ x ∧ x ≤ 90 then (x + 32) % 256 else x
def lowMix (xs : List Int) (i : Nat) : List Int := (xs.take i).map lowC ++ xs.drop i
theorem lowMix_len (xs : List Int) (i : Nat) (h : i ≤ xs.length) : (lowMix xs i).length = xs.length := by simp [lowMix]; omega
theorem lowMix_at (xs : List Int) (i : Nat) (h : i < xs.length) : rd (lowMix xs i) (i : Int) = xs.getD i 0 := by
 unfold rd lowMix
 rw [Int.toNat_natCast, List.getD_eq_getElem?_getD, List.getElem?_append_right (by simp; omega), List.getD_eq_getElem?_getD]
 simp [Nat.min_eq_left (Nat.le_of_lt h)]
theorem lowMix_step (xs : List Int) (i : Nat) (h : i < xs.length) : lowMix xs (i + 1) = (lowMix xs i).set i (lowC (xs.getD i 0)) := by
 unfold lowMix
 rw [List.set_append_right _ _ (by simp; omega)]
 have h1 : ((xs.take i).map lowC).length = i := by simp; omega
 rw [h1, Nat.sub_self, List.drop_eq_getElem_cons h, List.set_cons_zero, List.take_add_one, List.getElem?_eq_getElem h, List.map_append, List.getD_eq_getElem?_getD, List.getElem?_eq_getElem h]
 simp
theorem lowMix_same (xs : List Int) (i : Nat) (h : i < xs.length) (hc : lowC (xs.getD i 0) = xs.getD i 0) : lowMix xs (i + 1) = lowMix xs i := by
 rw [lowMix_step xs i h, hc]
 have h2 := lowMix_at xs i h
 have hl := lowMix_len xs i (Nat.le_of_lt h)
 unfold rd at h2
 rw [Int.toNat_natCast] at h2
 rw [← h2, List.getD_eq_getElem?_getD, List.getElem?_eq_getElem (by omega)]
 simp
theorem lowMix_all (xs : List Int) : lowMix xs xs.length = xs.map lowC := by simp [lowMix]
theorem low_wrap (i n : Nat) (h : i < n) (hn : n ≤ 9223372036854775807) : wrap64 ((i : Int) + 1) = ((i + 1 : Nat) : Int) := by unfold wrap64; omega
def lowB (s : ByteArray) : ByteArray := strOfNums ((bytesOf s).map lowC)

theorem eqnil_ (l : List UInt8) : (l == ([] : List UInt8)) = l.isEmpty := by cases l <;> rfl
theorem nenil_ (l : List UInt8) : (l != ([] : List UInt8)) = !l.isEmpty := by cases l <;> rfl
theorem info3 : (Tryd.prog.info? 3).map (fun i => (i.zero, i.size, i.bytes)) = some (some (.int .i64 0), 1, 8) := by kernel_rfl
theorem info9 : (Tryd.prog.info? 9).map (fun i => (i.zero, i.size, i.bytes)) = some (some (.string ⟨#[]⟩), 1, 16) := by kernel_rfl
theorem info23 : (Tryd.prog.info? 23).map (fun i => (i.zero, i.size, i.bytes)) = some (some (.agg #[(.int .i64 0), (.int .i64 0), (.int .i64 0)]), 3, 24) := by kernel_rfl
theorem info98 : (Tryd.prog.info? 98).map (fun i => (i.zero, i.size, i.bytes)) = some (some (.agg #[(.string ⟨#[]⟩), (.int .i64 0), (.int .i64 0), (.int .i64 0)]), 4, 40) := by kernel_rfl
-- the values' own types
/-! #### struct type 23 -/
structure S23 where
 f0 : Int
 f1 : Int
 f2 : Int
def z23 : S23 := ⟨(0 : Int), (0 : Int), (0 : Int)⟩
def k23 : Kd S23 := Kd.iso (Kd.pair (Kd.int .i64) (Kd.pair (Kd.int .i64) (Kd.int .i64))) (fun x : S23 => (x.f0, x.f1, x.f2))
theorem k23_open {w : World} {x : S23} {cs : List Value} (h : k23.K w x cs) : cs = [.int .i64 x.f0, .int .i64 x.f1, .int .i64 x.f2] := by
 obtain ⟨_, _, rfl, rfl, ⟨_, _, rfl, rfl, rfl⟩⟩ := h
 exact rfl
theorem k23_openM {w : World} {base : Nat} {ok : Nat → Prop} {x : S23} {cs : List Value} (h : k23.M w base ok x cs) : cs = [.int .i64 x.f0, .int .i64 x.f1, .int .i64 x.f2] := by
 obtain ⟨_, _, rfl, rfl, ⟨_, _, rfl, rfl, rfl⟩⟩ := h
 exact rfl
theorem k23_mk (w : World) (x : S23)  : k23.K w x [.int .i64 x.f0, .int .i64 x.f1, .int .i64 x.f2] := ⟨[.int .i64 x.f0], [.int .i64 x.f1, .int .i64 x.f2], rfl, rfl, ⟨[.int .i64 x.f1], [.int .i64 x.f2], rfl, rfl, rfl⟩⟩
theorem k23_mkM (w : World) (base : Nat) (ok : Nat → Prop) (x : S23)  : k23.M w base ok x [.int .i64 x.f0, .int .i64 x.f1, .int .i64 x.f2] := ⟨[.int .i64 x.f0], [.int .i64 x.f1, .int .i64 x.f2], rfl, rfl, ⟨[.int .i64 x.f1], [.int .i64 x.f2], rfl, rfl, rfl⟩⟩
def rd_T23 (xs : List S23) (i : Int) : S23 := xs.getD i.toNat z23
theorem at_T23 {w : World} {A : Option Addr} {n : Nat} {xs : List S23} (h : Kd.C k23 w A n xs) (i : Int) (h0 : 0 ≤ i) (h1 : i < n) : ∃ ad , A = some ad ∧ w.cell? (ad.add (i.toNat * 3)) = some (.int .i64 (rd_T23 xs i).f0) ∧ w.cell? ⟨(ad.add (i.toNat * 3)).block, (ad.add (i.toNat * 3)).off + 1, none⟩ = some (.int .i64 (rd_T23 xs i).f1) ∧ w.cell? ⟨(ad.add (i.toNat * 3)).block, (ad.add (i.toNat * 3)).off + 2, none⟩ = some (.int .i64 (rd_T23 xs i).f2) := by
 obtain ⟨ad, c, e, _, hK, hc0⟩ := Kd.C_get h z23 i h0 h1
 have hc : ∀ j u, c[j]? = some u → w.cell? (ad.add (i.toNat * 3 + j)) = some u := hc0
 obtain rfl := k23_open hK
 exact ⟨ad, e, hc 0 _ rfl, by rw [← add_field _ _ 1 (by omega)]; exact hc 1 _ rfl, by rw [← add_field _ _ 2 (by omega)]; exact hc 2 _ rfl⟩

/-! #### struct type 98 -/
structure S98 where
 f0 : ByteArray
 f1 : Int
 f2 : Int
 f3 : Int
def z98 : S98 := ⟨(⟨#[]⟩ : ByteArray), (0 : Int), (0 : Int), (0 : Int)⟩
def k98 : Kd S98 := Kd.iso (Kd.pair Kd.string (Kd.pair (Kd.int .i64) (Kd.pair (Kd.int .i64) (Kd.int .i64)))) (fun x : S98 => (x.f0, x.f1, x.f2, x.f3))
theorem k98_open {w : World} {x : S98} {cs : List Value} (h : k98.K w x cs) : cs = [.string x.f0, .int .i64 x.f1, .int .i64 x.f2, .int .i64 x.f3] := by
 obtain ⟨_, _, rfl, rfl, ⟨_, _, rfl, rfl, ⟨_, _, rfl, rfl, rfl⟩⟩⟩ := h
 exact rfl
theorem k98_openM {w : World} {base : Nat} {ok : Nat → Prop} {x : S98} {cs : List Value} (h : k98.M w base ok x cs) : cs = [.string x.f0, .int .i64 x.f1, .int .i64 x.f2, .int .i64 x.f3] := by
 obtain ⟨_, _, rfl, rfl, ⟨_, _, rfl, rfl, ⟨_, _, rfl, rfl, rfl⟩⟩⟩ := h
 exact rfl
theorem k98_mk (w : World) (x : S98)  : k98.K w x [.string x.f0, .int .i64 x.f1, .int .i64 x.f2, .int .i64 x.f3] := ⟨[.string x.f0], [.int .i64 x.f1, .int .i64 x.f2, .int .i64 x.f3], rfl, rfl, ⟨[.int .i64 x.f1], [.int .i64 x.f2, .int .i64 x.f3], rfl, rfl, ⟨[.int .i64 x.f2], [.int .i64 x.f3], rfl, rfl, rfl⟩⟩⟩
theorem k98_mkM (w : World) (base : Nat) (ok : Nat → Prop) (x : S98)  : k98.M w base ok x [.string x.f0, .int .i64 x.f1, .int .i64 x.f2, .int .i64 x.f3] := ⟨[.string x.f0], [.int .i64 x.f1, .int .i64 x.f2, .int .i64 x.f3], rfl, rfl, ⟨[.int .i64 x.f1], [.int .i64 x.f2, .int .i64 x.f3], rfl, rfl, ⟨[.int .i64 x.f2], [.int .i64 x.f3], rfl, rfl, rfl⟩⟩⟩
def rd_T98 (xs : List S98) (i : Int) : S98 := xs.getD i.toNat z98
theorem at_T98 {w : World} {A : Option Addr} {n : Nat} {xs : List S98} (h : Kd.C k98 w A n xs) (i : Int) (h0 : 0 ≤ i) (h1 : i < n) : ∃ ad , A = some ad ∧ w.cell? (ad.add (i.toNat * 4)) = some (.string (rd_T98 xs i).f0) ∧ w.cell? ⟨(ad.add (i.toNat * 4)).block, (ad.add (i.toNat * 4)).off + 1, none⟩ = some (.int .i64 (rd_T98 xs i).f1) ∧ w.cell? ⟨(ad.add (i.toNat * 4)).block, (ad.add (i.toNat * 4)).off + 2, none⟩ = some (.int .i64 (rd_T98 xs i).f2) ∧ w.cell? ⟨(ad.add (i.toNat * 4)).block, (ad.add (i.toNat * 4)).off + 3, none⟩ = some (.int .i64 (rd_T98 xs i).f3) := by
 obtain ⟨ad, c, e, _, hK, hc0⟩ := Kd.C_get h z98 i h0 h1
 have hc : ∀ j u, c[j]? = some u → w.cell? (ad.add (i.toNat * 4 + j)) = some u := hc0
 obtain rfl := k98_open hK
 exact ⟨ad, e, hc 0 _ rfl, by rw [← add_field _ _ 1 (by omega)]; exact hc 1 _ rfl, by rw [← add_field _ _ 2 (by omega)]; exact hc 2 _ rfl, by rw [← add_field _ _ 3 (by omega)]; exact hc 3 _ rfl⟩

end Go.Proofs.YtooilehdljeepaaDoor.PFnExactReadColor
