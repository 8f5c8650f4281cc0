-- Laid by a program of this session out of the translation (its own run of the print). Lean checks it.
import Derived.Test.YtfogfjmkngoegaaPFnExactPackBestx0
import Derived.Test.YtfogfjmkngoegaaPFnExactPackBestx1
import Derived.Test.YtfogfjmkngoegaaPFnExactPackBestx2
namespace Go.Proofs.Ytfogfjmkngoegaa.PFnExactPackBest
open Go.RowKit Go.Proofs.YtfogfjmkngoegaaW.PrintWords Go.Proofs.YtfogfjmkngoegaaW.PrintLast Go.Proofs.YtfogfjmkngoegaaW.PrintMore
attribute [local go_sem] max2_int min2_int max_two min_two max_three min_three max_four min_four   -- for this text's walks alone
set_option linter.unusedVariables false
set_option linter.unusedSimpArgs false

/-! ### spec_l2PackFixed: function 19 -/
theorem sl64_ {w : World} {base : Nat} {ok : Nat → Prop} {v : Value} {xs : List Int} (h : Kd.R (Kd.int .i64) 3 w base ok v xs) (hn : 0 < xs.length) : ∃ b cap, v = .slice (some ⟨b, 0, none⟩) xs.length cap ∧ xs.length ≤ cap := by
 rcases (Kd.own_of_R h).2 with ⟨_, hz⟩ | ⟨b, cap, cur, e, _, _, hc, _⟩
 ·omega
 ·exact ⟨b, cap, e, hc⟩
theorem R_kept8 {w W : World} {base g T : Nat} {cs : Array Value} {ok : Nat → Prop} {v : Value} {xs : List Int} (h : Kd.R (Kd.int .i64) 3 w base ok v xs) (hk : Kept8 w W g) (hg : w.heap[g]? = some (.cells cs T (0, 0))) (hT : T ≠ 3) : Kd.R (Kd.int .i64) 3 W base ok v xs := by
 refine Kd.R_mono (Kd.R_step (Kd.R_bound h) (fun k hk2 hlt => ?_)) (fun _ h => h.1)
 obtain ⟨_, _, _, q, hq, cells, hc⟩ := hk2
 have hq3 : q = 3 := by simpa [Kd.int, Kd.scalar] using hq
 subst hq3
 refine hk.2 k hlt (fun e => ?_) (fun cs' e => ?_)
 ·subst e; rw [hg] at hc; injection hc with hc; injection hc with _ h2; exact hT h2
 ·rw [hc] at e; injection e with e; injection e with _ h2; exact absurd h2 (by decide)
/-- what is known while bits are laid down: the block, and two rows of numbers beside it. -/
structure PkSt (T base : Nat) (w0 W : World) (g : Nat) (vl vc : Value) (ls cs out : List Int) (many : Int) : Prop where
 size : base ≤ W.heap.size
 below : Below base w0 W
 bits : W8 T W base g out many
 len : Kd.R (Kd.int .i64) 3 W base (fun _ => True) vl ls
 cod : Kd.R (Kd.int .i64) 3 W base (fun _ => True) vc cs
theorem PkSt.drewN {T base g : Nat} {w0 W : World} {vl vc : Value} {ls cs out : List Int} {many : Int} (h : PkSt T base w0 W g vl vc ls cs out many) (n : Nat) : PkSt T base w0 (W.drewN n) g vl vc ls cs out many :=
 ⟨h.size, pw_below_drewN h.below n, h.bits.drewN n, Kd.R_drewN h.len n, Kd.R_drewN h.cod n⟩
theorem PkSt.drew {T base g : Nat} {w0 W : World} {vl vc : Value} {ls cs out : List Int} {many : Int} (h : PkSt T base w0 W g vl vc ls cs out many) : PkSt T base w0 W.drew g vl vc ls cs out many :=
 ⟨h.size, below_drew1 h.below, h.bits.drew, Kd.R_drew h.len, Kd.R_drew h.cod⟩
theorem PkSt.told {T base g : Nat} {w0 W V : World} {vl vc : Value} {ls cs out out' : List Int} {many many' : Int} (h : PkSt T base w0 W g vl vc ls cs out many) (hT : T ≠ 3) (hb : Below base w0 V) (hw : W8 T V base g out' many') (hk : Kept8 W V g) : PkSt T base w0 V g vl vc ls cs out' many' := by
 obtain ⟨v, h1, _⟩ := h.bits
 exact ⟨Nat.le_trans h.size hk.1, hb, hw, R_kept8 h.len hk h1 hT, R_kept8 h.cod hk h1 hT⟩
def pkB (n : Int) : Nat → Int → Option Nat
 | 0, _ => none
 | r + 1, b => if b > n then (spec_l2Base.f ((r : Int) - 1)).bind fun p => pkB n r p.1 else some r
def pkF (n : Int) : Nat → Int → Option Nat
 | 0, _ => none
 | r + 1, b => if b > n then (spec_l2Back.f ((r : Int) - 1)).bind fun p => pkF n r p.1 else some r
def spec_l2PackFixed.l0 (D ls cs : List Int) : Nat → Int → List Int → Int → Option (List Int)
 | 0, _, _, _ => none
 | k + 1, at_, o, m => if at_ < (D.length : Int) then (if 0 ≤ at_ then (spec_l2Match.f k D at_).bind fun q => if q.1 = 0 then (if 0 ≤ rd D at_ ∧ rd D at_ < 256 then (spec_l2Bits_code.f o m (rd cs (rd D at_)) (rd ls (rd D at_))).bind fun p => spec_l2PackFixed.l0 D ls cs k (wrap64 (at_ + 1)) p.1 p.2 else none) else
   (spec_l2Base.f 28).bind fun b28 => (pkB q.1 29 b28.1).bind fun kk => (spec_l2Base.f (kk : Int)).bind fun bm => (spec_l2Bits_code.f o m (rd cs (257 + (kk : Int))) (rd ls (257 + (kk : Int)))).bind fun p => (spec_l2Bits_number.f p.1 p.2 (wrap64 (q.1 - bm.1)) bm.2).bind fun p =>
   (spec_l2Back.f 29).bind fun b29 => (pkF q.2 30 b29.1).bind fun kf => (spec_l2Back.f (kf : Int)).bind fun fm => (spec_l2Bits_code.f p.1 p.2 (kf : Int) 5).bind fun p => (spec_l2Bits_number.f p.1 p.2 (wrap64 (q.2 - fm.1)) fm.2).bind fun p => spec_l2PackFixed.l0 D ls cs k (wrap64 (at_ + q.1)) p.1 p.2 else none)
  else (spec_l2Bits_code.f o m 0 7).bind fun p => some p.1
def spec_l2PackFixed.f (k : Nat) (D : List Int) : Option (List Int) := (spec_l2Fixed.f k).bind fun ls => (spec_l2Codes.f k ls).bind fun cs => if ls.length = 288 ∧ cs.length = 288 then (spec_l2Bits_number.f [] 0 3 3).bind fun p => spec_l2PackFixed.l0 D ls cs k 0 p.1 p.2 else none
set_option maxHeartbeats 8000000 in
set_option maxRecDepth 100000 in
theorem spec_l2PackFixed.calls (k : Nat) (A0 : Option Addr) (c0 : Nat) (l0 : List Int) (r : List Int) (w : World) (hr0 : Kd.C (Kd.int .u8) w A0 l0.length l0) (hc0 : l0.length ≤ c0) (h : spec_l2PackFixed.f k l0 = some r) :
  Calls Try.prog 19 #[.slice A0 l0.length c0] w fun e w' => ∃ v0_ : Value, e = .returned (v0_) ∧ Kd.R (Kd.int .u8) 5 w' w.heap.size (fun _ => True) v0_ r ∧ Below w.heap.size w w' := by
 have HR0 := Aside0.mk hr0
 have HC0 := Aside0.mk hc0
 clear hr0 hc0
 unfold spec_l2PackFixed.f at h
 obtain ⟨ls, hls, h⟩ := Option.bind_eq_some_iff.mp h
 obtain ⟨cs, hcs, h⟩ := Option.bind_eq_some_iff.mp h
 by_cases h288 : ls.length = 288 ∧ cs.length = 288
 rotate_left
 ·rw [if_neg h288] at h; cases h
 rw [if_pos h288] at h
 obtain ⟨⟨o2, m2⟩, hn, h⟩ := Option.bind_eq_some_iff.mp h
 have HLS := Aside0.mk hls
 have HCS := Aside0.mk hcs
 have HNL := Aside0.mk h288.1
 have HNC := Aside0.mk h288.2
 have HN := Aside0.mk hn
 have HH := Aside0.mk h
 clear hls hcs h288 hn h
 have HB := Aside0.mk (Below.refl w.heap.size w)
 go_enter Try.func19, Try.ntmps19
 go_upto_region 4 with (first
  | (go_at_call 47; (with_reducible refine (spec_l2Fixed.calls k ls _ HLS.out).mono ?_); rintro e w2 ⟨v0, rfl, hR, hb⟩; obtain ⟨bl, cl, rfl, hcl⟩ := sl64_ hR (by have := HNL.out; omega); have RL := Aside0.mk hR; have BL := Aside0.mk hb; have CL := Aside0.mk hcl; clear hR hb hcl)
  | (go_at_call 48; (with_reducible refine (spec_l2Codes.calls k _ _ ls cs _ (Kd.R_reads' RL.out).2.2 CL.out HCS.out).mono ?_); rintro e w3 ⟨v1, rfl, hR, hb⟩; obtain ⟨bc, cc, rfl, hcc⟩ := sl64_ hR (by have := HNC.out; omega); have RC := Aside0.mk hR; have BC := Aside0.mk hb; have CC := Aside0.mk hcc; clear hR hb hcc))
 obtain ⟨g, hg⟩ : ∃ g : Nat, g = w3.heap.size := ⟨_, rfl⟩
 obtain ⟨W0, hW0⟩ : ∃ W0 : World, W0 = w3.alloc (.cells #[.slice none 0 0, .int .i64 0] 67) := ⟨_, rfl⟩
 rw [← hg, ← hW0]
 have S0 : Aside0 (PkSt 67 w.heap.size w W0 g (.slice (some ⟨bl, 0, none⟩) ls.length cl) (.slice (some ⟨bc, 0, none⟩) cs.length cc) ls cs [] 0) := ⟨by
  have b1 := BL.out
  have b2 := Below.mono BC.out b1.size
  have hz : w.heap.size ≤ w3.heap.size := Nat.le_trans b1.size b2.size
  subst hg
  subst hW0
  exact ⟨by rw [World.size_alloc]; omega, (b1.trans b2).alloc hz _, ⟨_, blk_new _ _, hz, Kd.R_nil _ _ _ _ _⟩, Kd.R_alloc (Kd.R_below RL.out BC.out) _, Kd.R_alloc (Kd.R_lower RC.out b1.size) _⟩⟩
 clear hg hW0 RL BL RC BC
 clear w2 w3
 go_wp2_with (go_at_call 49; (with_reducible refine (spec_l2Bits_number.calls [] 0 3 3 o2 m2 w.heap.size _ w _ (S0.out).size (S0.out).below (S0.out).bits HN.out).mono ?_); rintro e w2 ⟨rfl, hb_, hw_, hk_⟩; have S2 := Aside0.mk (PkSt.told (S0.out) (by decide) hb_ hw_ hk_); clear hb_ hw_ hk_)
 go_loopg [6] k (fun kq v w' => ∃ (a : Int) (o : List Int) (m : Int), v = .int .i64 a ∧ Aside0 (spec_l2PackFixed.l0 l0 ls cs kq a o m = some r) ∧ Aside0 (PkSt 67 w.heap.size w w' g (.slice (some ⟨bl, 0, none⟩) ls.length cl) (.slice (some ⟨bc, 0, none⟩) cs.length cc) ls cs o m))
 case atStart => exact ⟨0, o2, m2, rfl, HH, S2⟩
 case round =>
  clear S0 S2 HH HN HB
  clear o2 m2
  obtain ⟨a, o, m, rfl, HA, ST⟩ := hrel
  cases gk with
  | zero => exact absurd HA.out (by simp [spec_l2PackFixed.l0])
  | succ kf =>
   have H := HA.out
   clear HA
   rw [spec_l2PackFixed.l0] at H
   have HR1 := Aside0.mk (Kd.C_below HR0.out ST.out.below)
   by_cases c1 : a < (l0.length : Int)
   rotate_left
   ·rw [if_neg c1] at H
    obtain ⟨⟨o2, m2⟩, hd, H⟩ := Option.bind_eq_some_iff.mp H
    obtain rfl := Option.some.inj H
    have HD := Aside0.mk hd
    have c1b : decide (a < (l0.length : Int)) = false := decide_eq_false c1
    clear hd H c1
    go_wp2_with (go_at_call 51; (with_reducible refine (spec_l2Bits_code.calls o m 0 7 o2 m2 w.heap.size _ w _ (ST.out).size (ST.out).below (ST.out).bits HD.out).mono ?_); rintro e w2 ⟨rfl, hb_, hw_, hk_⟩; have S2 := Aside0.mk (PkSt.told (ST.out) (by decide) hb_ hw_ hk_); clear hb_ hw_ hk_; obtain ⟨vo, hb_, hg_, hR_⟩ := S2.out.bits; have k0_ := (blk_cell hb_ 0).trans rfl; have RO := Aside0.mk hR_; clear hb_ hg_ hR_)
    go_ret
    exact ⟨_, rfl, RO.out, S2.out.below⟩
   ·rw [if_pos c1] at H
    have c1b : decide (a < (l0.length : Int)) = true := decide_eq_true c1
    by_cases c2 : 0 ≤ a
    rotate_left
    ·rw [if_neg c2] at H; cases H
    rw [if_pos c2] at H
    obtain ⟨⟨n, f⟩, hq, H⟩ := Option.bind_eq_some_iff.mp H
    have HQ := Aside0.mk hq
    dsimp only at H
    clear hq
    by_cases hn : n = 0
    ·rw [if_pos hn] at H
     subst hn
     by_cases c3 : 0 ≤ rd l0 a ∧ rd l0 a < 256
     rotate_left
     ·rw [if_neg c3] at H; cases H
     rw [if_pos c3] at H
     obtain ⟨⟨o2, m2⟩, hd, H⟩ := Option.bind_eq_some_iff.mp H
     have H' := Aside0.mk H
     clear H
     go_upto_region 9 with (go_at_call 50; (with_reducible refine (spec_l2Match.calls kf A0 c0 l0 a 0 f _ HR1.out HC0.out HQ.out).mono ?_); rintro e w2 ⟨rfl, ⟨nd, rfl⟩⟩)
     obtain ⟨W, hW⟩ : ∃ W : World, W = wr.drewN nd := ⟨_, rfl⟩
     rw [← hW]
     have S1 : Aside0 (PkSt 67 w.heap.size w W g (.slice (some ⟨bl, 0, none⟩) ls.length cl) (.slice (some ⟨bc, 0, none⟩) cs.length cc) ls cs o m) := ⟨by rw [hW]; exact ST.out.drewN nd⟩
     obtain ⟨ad, e1, hx⟩ := Kd.at_int (Kd.C_below HR0.out S1.out.below) a c2 c1
     subst e1
     obtain ⟨x, ex⟩ : ∃ x : Int, x = rd l0 a := ⟨_, rfl⟩
     rw [← ex] at hx c3
     rw [← ex] at hd
     have HD := Aside0.mk (show spec_l2Bits_code.f o m (rdOf 0 cs x) (rdOf 0 ls x) = some (o2, m2) from hd)
     have hnl := HNL.out
     have hnc := HNC.out
     have hy1 := (Kd.R_celln 0 S1.out.len x c3.1 (by omega)).1
     have hy2 := (Kd.R_celln 0 S1.out.cod x c3.1 (by omega)).1
     have c31 := c3.1
     have c32 := c3.2
     have c33 : x < (ls.length : Int) := by omega
     have c34 : x < (cs.length : Int) := by omega
     clear hW ex c3 hnl hnc hd
     go_still_tail 15, (by kernel_rfl)
     change wpList _ _ _ _ _ W.drew
     have S3 := Aside0.mk S1.out.drew
     clear S1 hx hy1 hy2
     generalize W.drew = V at S3 ⊢
     go_wp2_with (go_at_call 51; (with_reducible refine (spec_l2Bits_code.calls o m (rdOf 0 cs x) (rdOf 0 ls x) o2 m2 w.heap.size _ w _ (S3.out).size (S3.out).below (S3.out).bits HD.out).mono ?_); rintro e w2 ⟨rfl, hb_, hw_, hk_⟩; have S2 := Aside0.mk (PkSt.told (S3.out) (by decide) hb_ hw_ hk_); clear hb_ hw_ hk_)
     go_roundg kf
     case measure => omega
     case rel => exact ⟨wrap64 (a + 1), o2, m2, by first | rfl | (simp; done), H', S2⟩
    ·rw [if_neg hn] at H
     obtain ⟨⟨b28, c28⟩, h28, H⟩ := Option.bind_eq_some_iff.mp H
     obtain ⟨kk, hkk, H⟩ := Option.bind_eq_some_iff.mp H
     obtain ⟨⟨bb, bm⟩, hbm, H⟩ := Option.bind_eq_some_iff.mp H
     obtain ⟨⟨o2, m2⟩, hd2, H⟩ := Option.bind_eq_some_iff.mp H
     obtain ⟨⟨o3, m3⟩, hd3, H⟩ := Option.bind_eq_some_iff.mp H
     obtain ⟨⟨b29, c29⟩, h29, H⟩ := Option.bind_eq_some_iff.mp H
     obtain ⟨kz, hkq, H⟩ := Option.bind_eq_some_iff.mp H
     obtain ⟨⟨fb, fm⟩, hfm, H⟩ := Option.bind_eq_some_iff.mp H
     obtain ⟨⟨o4, m4⟩, hd4, H⟩ := Option.bind_eq_some_iff.mp H
     obtain ⟨⟨o5, m5⟩, hd5, H⟩ := Option.bind_eq_some_iff.mp H
     dsimp only at hkk hbm hd2 hd3 h29 hkq hfm hd4 hd5 H
     have H28 := Aside0.mk h28
     have HKK := Aside0.mk hkk
     have HBM := Aside0.mk hbm
     have HD2 := Aside0.mk (show spec_l2Bits_code.f o m (rdOf 0 cs (257 + (kk : Int))) (rdOf 0 ls (257 + (kk : Int))) = some (o2, m2) from hd2)
     have HD3 := Aside0.mk hd3
     have H29 := Aside0.mk h29
     have HKQ := Aside0.mk hkq
     have HFM := Aside0.mk hfm
     have HD4 := Aside0.mk hd4
     have HD5 := Aside0.mk hd5
     have H' := Aside0.mk H
     have hnb : ((n : Int) == 0) = false := beq_eq_false_iff_ne.mpr hn
     clear h28 hkk hbm hd2 hd3 h29 hkq hfm hd4 hd5 H
     go_wp2_with (first
      | (go_at_call 50; (with_reducible refine (spec_l2Match.calls kf A0 c0 l0 a n f _ HR1.out HC0.out HQ.out).mono ?_); rintro e w2 ⟨rfl, ⟨nd, rfl⟩⟩)
      | (go_at_call 52; (with_reducible refine (spec_l2Base.calls 28 b28 c28 _ H28.out).mono ?_); rintro e w9 ⟨rfl, ⟨nd2, rfl⟩⟩))
     go_loopg [9, 10] 29 (fun kq v9 v10 w' => ∃ b : Int, v9 = .int .i64 ((kq : Int) - 1) ∧ v10 = .int .i64 b ∧ Aside0 (pkB n kq b = some kk) ∧ Aside0 (kq ≤ 29) ∧ Aside0 (PkSt 67 w.heap.size w w' g (.slice (some ⟨bl, 0, none⟩) ls.length cl) (.slice (some ⟨bc, 0, none⟩) cs.length cc) ls cs o m))
     case atStart => exact ⟨b28, rfl, rfl, HKK, ⟨Nat.le_refl _⟩, ⟨ST.out.drewN _⟩⟩
     case round =>
      clear HR1 HKK H28 HQ
      obtain ⟨b, rfl, rfl, HA2, HI2, ST2⟩ := hrel
      cases gk with
      | zero => exact absurd HA2.out (by simp [pkB])
      | succ r1 =>
       have er : ((r1 + 1 : Nat) : Int) - 1 = (r1 : Int) := by omega
       rw [er]
       have hi2 := HI2.out
       have H := HA2.out
       rw [pkB] at H
       clear HA2 er
       by_cases hb : b > n
       ·rw [if_pos hb] at H
        obtain ⟨⟨b', c'⟩, h', H⟩ := Option.bind_eq_some_iff.mp H
        have H0' := Aside0.mk h'
        have H1' := Aside0.mk H
        have hb1 : decide (b > n) = true := decide_eq_true hb
        clear h' H
        go_wp2_with (go_at_call 52; (with_reducible refine (spec_l2Base.calls ((r1 : Int) - 1) b' c' _ H0'.out).mono ?_); rintro e w9 ⟨rfl, ⟨nd3, rfl⟩⟩)
        go_roundg r1
        case measure => omega
        case rel => exact ⟨b', rfl, rfl, H1', ⟨by have := HI2.out; omega⟩, ⟨ST2.out.drewN _⟩⟩
       ·rw [if_neg hb] at H
        obtain rfl := Option.some.inj H
        have hb1 : decide (b > n) = false := decide_eq_false hb
        clear H hb
        go_upto_region 17 with (go_at_call 52; (with_reducible refine (spec_l2Base.calls (r1 : Int) bb bm _ HBM.out).mono ?_); rintro e w9 ⟨rfl, ⟨nd3, rfl⟩⟩)
        obtain ⟨W, hW⟩ : ∃ W : World, W = wr.drewN nd3 := ⟨_, rfl⟩
        rw [← hW]
        have S1 : Aside0 (PkSt 67 w.heap.size w W g (.slice (some ⟨bl, 0, none⟩) ls.length cl) (.slice (some ⟨bc, 0, none⟩) cs.length cc) ls cs o m) := ⟨by rw [hW]; exact ST2.out.drewN nd3⟩
        have hnl := HNL.out
        have hnc := HNC.out
        obtain ⟨i, ei⟩ : ∃ i : Int, i = 257 + (r1 : Int) := ⟨_, rfl⟩
        have i1 : (0 : Int) ≤ i := by omega
        have i2 : i < (ls.length : Int) := by omega
        have i3 : i < (cs.length : Int) := by omega
        have hy1 := (Kd.R_celln 0 S1.out.len i i1 i2).1
        have hy2 := (Kd.R_celln 0 S1.out.cod i i1 i3).1
        have hwj : wrap64 (257 + (r1 : Int)) = i := by rw [ei]; unfold wrap64; omega
        have hwi : IntKind.i64.wrap (257 + (r1 : Int)) = i := (i64_w _).trans hwj
        have HD6 := Aside0.mk (show spec_l2Bits_code.f o m (rdOf 0 cs i) (rdOf 0 ls i) = some (o2, m2) by rw [ei]; exact HD2.out)
        clear hW hnl hnc ei hi2
        go_still_tail 11, (by kernel_rfl)
        change wpList _ _ _ _ _ W.drew
        have S6 := Aside0.mk S1.out.drew
        clear S1 hy1 hy2
        generalize W.drew = V at S6 ⊢
        clear W
        go_wp2_with (first
         | (go_at_call 51; (with_reducible refine (spec_l2Bits_code.calls o m _ _ o2 m2 w.heap.size _ w _ (S6.out).size (S6.out).below (S6.out).bits HD6.out).mono ?_); rintro e w2 ⟨rfl, hb_, hw_, hk_⟩; have S2 := Aside0.mk (PkSt.told (S6.out) (by decide) hb_ hw_ hk_); clear hb_ hw_ hk_)
         | (go_at_call 49; (with_reducible refine (spec_l2Bits_number.calls o2 m2 _ _ o3 m3 w.heap.size _ w _ (S2.out).size (S2.out).below (S2.out).bits HD3.out).mono ?_); rintro e w3 ⟨rfl, hb_, hw_, hk_⟩; have S3 := Aside0.mk (PkSt.told (S2.out) (by decide) hb_ hw_ hk_); clear hb_ hw_ hk_)
         | (go_at_call 53; (with_reducible refine (spec_l2Back.calls 29 b29 c29 _ H29.out).mono ?_); rintro e w9 ⟨rfl, ⟨nd4, rfl⟩⟩))
        go_loopg [9, 14] 30 (fun kq v9 v14 w' => ∃ b : Int, v9 = .int .i64 ((kq : Int) - 1) ∧ v14 = .int .i64 b ∧ Aside0 (pkF f kq b = some kz) ∧ Aside0 (kq ≤ 30) ∧ Aside0 (PkSt 67 w.heap.size w w' g (.slice (some ⟨bl, 0, none⟩) ls.length cl) (.slice (some ⟨bc, 0, none⟩) cs.length cc) ls cs o3 m3))
        case atStart => exact ⟨b29, rfl, rfl, HKQ, ⟨Nat.le_refl _⟩, ⟨S3.out.drewN _⟩⟩
        case round =>
         clear S3 S2 S6 ST2 HKQ H29 HD6 HD3 HBM
         obtain ⟨b3, rfl, rfl, HA3, HI3, ST3⟩ := hrel
         cases gk with
         | zero => exact absurd HA3.out (by simp [pkF])
         | succ r2 =>
          have er : ((r2 + 1 : Nat) : Int) - 1 = (r2 : Int) := by omega
          rw [er]
          have hi3 := HI3.out
          have H := HA3.out
          rw [pkF] at H
          clear HA3 er
          by_cases hb : b3 > f
          ·rw [if_pos hb] at H
           obtain ⟨⟨b', c'⟩, h', H⟩ := Option.bind_eq_some_iff.mp H
           have H0' := Aside0.mk h'
           have H1' := Aside0.mk H
           have hb1 : decide (b3 > f) = true := decide_eq_true hb
           clear h' H
           go_wp2_with (go_at_call 53; (with_reducible refine (spec_l2Back.calls ((r2 : Int) - 1) b' c' _ H0'.out).mono ?_); rintro e w9 ⟨rfl, ⟨nd5, rfl⟩⟩)
           go_roundg r2
           case measure => omega
           case rel => exact ⟨b', rfl, rfl, H1', ⟨by have := HI3.out; omega⟩, ⟨ST3.out.drewN _⟩⟩
          ·rw [if_neg hb] at H
           obtain rfl := Option.some.inj H
           have hb1 : decide (b3 > f) = false := decide_eq_false hb
           clear H hb
           go_wp2_with (first
            | (go_at_call 53; (with_reducible refine (spec_l2Back.calls (r2 : Int) fb fm _ HFM.out).mono ?_); rintro e w9 ⟨rfl, ⟨nd5, rfl⟩⟩)
            | (go_at_call 51; (with_reducible refine (spec_l2Bits_code.calls o3 m3 (r2 : Int) 5 o4 m4 w.heap.size _ w _ (ST3.out.drewN nd5).size (ST3.out.drewN nd5).below (ST3.out.drewN nd5).bits HD4.out).mono ?_); rintro e w4 ⟨rfl, hb_, hw_, hk_⟩; have S4 := Aside0.mk (PkSt.told (ST3.out.drewN nd5) (by decide) hb_ hw_ hk_); clear hb_ hw_ hk_)
            | (go_at_call 49; (with_reducible refine (spec_l2Bits_number.calls o4 m4 (wrap64 (f - fb)) fm o5 m5 w.heap.size _ w _ (S4.out).size (S4.out).below (S4.out).bits HD5.out).mono ?_); rintro e w5 ⟨rfl, hb_, hw_, hk_⟩; have S5 := Aside0.mk (PkSt.told (S4.out) (by decide) hb_ hw_ hk_); clear hb_ hw_ hk_))
           go_roundg kf
           case measure => omega
           case rel => exact ⟨wrap64 (a + n), o5, m5, by first | rfl | (simp; done), H', S5⟩

/-! ### spec_l2Stored: function 55 -/
def spec_l2Stored.f (l0 : List Int) : Option (List Int) := (some (([1, ((l0.length : Int)) % 256, ((l0.length : Int) / 256) % 256, (Go.bits .xor .i64 (-1) (l0.length : Int)) % 256, ((Go.bits .xor .i64 (-1) (l0.length : Int)) / 256) % 256] : List Int) : List Int)).bind fun y126 => (if y126.length + l0.length < 140737488355328 then (some (y126 ++ l0)) else (none))
set_option maxHeartbeats 8000000 in
set_option maxRecDepth 100000 in
theorem spec_l2Stored.calls (A0 : Option Addr) (c0 : Nat) (l0 : List Int) (r : List Int) (w : World) (hr0 : Kd.C (Kd.int .u8) w A0 l0.length l0) (hc0 : l0.length ≤ c0) (h : spec_l2Stored.f l0 = some r) :
  Calls Try.prog 55 #[.slice A0 l0.length c0] w fun e w' => ∃ v0_ : Value, e = .returned (v0_) ∧ Kd.R (Kd.int .u8) 5 w' w.heap.size (fun _ => True) v0_ r ∧ Below w.heap.size w w' := by
 have HR0 := Aside0.mk hr0
 have HC0 := Aside0.mk hc0
 clear hr0 hc0
 have HB := Aside0.mk (Below.refl w.heap.size w)
 have H : ((some (([1, ((l0.length : Int)) % 256, ((l0.length : Int) / 256) % 256, (Go.bits .xor .i64 (-1) (l0.length : Int)) % 256, ((Go.bits .xor .i64 (-1) (l0.length : Int)) / 256) % 256] : List Int) : List Int)).bind fun y126 => (if y126.length + l0.length < 140737488355328 then (some (y126 ++ l0)) else (none))) = some r := h
 clear h
 obtain ⟨y126, hy126⟩ : ∃ y_ : List Int, y_ = (([1, ((l0.length : Int)) % 256, ((l0.length : Int) / 256) % 256, (Go.bits .xor .i64 (-1) (l0.length : Int)) % 256, ((Go.bits .xor .i64 (-1) (l0.length : Int)) / 256) % 256] : List Int)) := ⟨_, rfl⟩
 replace H : (if y126.length + l0.length < 140737488355328 then (some (y126 ++ l0)) else (none)) = some r := by first | (rw [hy126]; with_reducible exact H) | (have H2_ := (Option.bind_some _ _).symm.trans H; rw [hy126]; with_reducible exact H2_) | (have H2_ := (Option.bind_some _ _).symm.trans H; with_reducible exact H2_) | with_reducible exact H | (rw [hy126]; exact H) | exact H
 have Ny126 := Aside0.mk hy126
 clear hy126
 by_cases c2 : y126.length + l0.length < 140737488355328
 ·rw [if_pos c2] at H
  have LMc2 := Aside0.mk c2
  clear c2
  obtain ⟨y129, hy129⟩ : ∃ y_ : List Int, y_ = (y126 ++ l0) := ⟨_, rfl⟩
  replace H : (some y129) = some r := by first | (rw [hy129]; with_reducible exact H) | (have H2_ := (Option.bind_some _ _).symm.trans H; rw [hy129]; with_reducible exact H2_) | (have H2_ := (Option.bind_some _ _).symm.trans H; with_reducible exact H2_) | with_reducible exact H | (rw [hy129]; exact H) | exact H
  have Ny129 := Aside0.mk hy129
  clear hy129
  obtain rfl := Option.some.inj H
  go_enter Try.func55, Try.ntmps55
  go_wp2_with (first | ((with_reducible refine gate_dst (N := 19) rfl ?_); refine Kd.R_lit (Kd.int .u8) _ 5 ?hg (N := 19) ?hd (xs := ([1, ((l0.length : Int)) % 256, ((l0.length : Int) / 256) % 256, (Go.bits .xor .i64 (-1) (l0.length : Int)) % 256, ((Go.bits .xor .i64 (-1) (l0.length : Int)) / 256) % 256] : List Int)) (inner := [.int .u8 1, .int .u8 (((l0.length : Int)) % 256), .int .u8 (((l0.length : Int) / 256) % 256), .int .u8 ((Go.bits .xor .i64 (-1) (l0.length : Int)) % 256), .int .u8 (((Go.bits .xor .i64 (-1) (l0.length : Int)) / 256) % 256)]) (ok := fun _ => True) (okp := fun _ => True) ?hr ?hp (fun _ hk => hk) trivial (Below.refl _ _) (Nat.le_refl _) (by simp) ?_; (case hd => rfl); (case hg => rfl); (case hr => first | (go_simp; done) | (go_simp; rfl)); (case hp => exact (Reps.one (show Kd.M (Kd.int .u8) _ _ _ 1 [.int .u8 1] from rfl) (Reps.one (show Kd.M (Kd.int .u8) _ _ _ (((l0.length : Int)) % 256) [.int .u8 (((l0.length : Int)) % 256)] from rfl) (Reps.one (show Kd.M (Kd.int .u8) _ _ _ (((l0.length : Int) / 256) % 256) [.int .u8 (((l0.length : Int) / 256) % 256)] from rfl) (Reps.one (show Kd.M (Kd.int .u8) _ _ _ ((Go.bits .xor .i64 (-1) (l0.length : Int)) % 256) [.int .u8 ((Go.bits .xor .i64 (-1) (l0.length : Int)) % 256)] from rfl) (Reps.one (show Kd.M (Kd.int .u8) _ _ _ (((Go.bits .xor .i64 (-1) (l0.length : Int)) / 256) % 256) [.int .u8 (((Go.bits .xor .i64 (-1) (l0.length : Int)) / 256) % 256)] from rfl) (Reps.none _ _))))))); intro v127 w3 ho4 hb hg_ hnew_; clear hg_ hnew_; (first | rw [← Ny126.out] at ho4 | (simp only [Int.reduceToNat] at ho4; rw [← Ny126.out] at ho4)); have n0_ := Aside0.mk (Kd.R_lower ho4 (below_size (by repeat (first | (with_reducible first | exact HB.out | apply below_alloc | apply pw_below_drewN | apply below_drew1) | exact HB.out)))); have n1_ := Aside0.mk (below_step (by repeat (first | (with_reducible first | exact HB.out | apply below_alloc | apply pw_below_drewN | apply below_drew1) | exact HB.out)) hb); clear HB; have HO128 := n0_; have HB := n1_; clear n0_ n1_; clear hb ho4) | ((with_reducible refine gate_builtin (b := .append) (xs := #[.tmp 20, .tmp 21]) rfl ?_); at_builtin; refine Kd.R_append_rows (Kd.int .u8) (w0 := w) w.heap.size rfl (.tmp 20) (.tmp 21) 22 5 (.int .u8 0) 1 rfl Try.underlying22 info5 rfl (by decide) (by omega) v127 y126 l0 _ _ _ (fun _ => True) (fun _ => False) rfl rfl ?aO ?aR (fun _ _ h => h) (fun _ h => h.elim) ?aF ?aB ?aS ?aL ?_; (case aR => repeat (first | exact (Kd.C_below HR0.out HB.out) | (with_reducible refine Kd.C_alloc ?_ _) | (with_reducible refine Kd.C_drewN ?_ _) | (with_reducible refine Kd.C_drew ?_))); (case aB => exact (by repeat (first | (with_reducible first | exact HB.out | apply below_alloc | apply pw_below_drewN | apply below_drew1) | exact HB.out))); (case aF => exact (fun _ _ => trivial)); (case aO => exact (by (with_reducible repeat (first | apply Kd.R_alloc | apply Kd.R_drewN | apply Kd.R_drew)); exact HO128.out)); (case aS => exact (below_size (by repeat (first | (with_reducible first | exact HB.out | apply below_alloc | apply pw_below_drewN | apply below_drew1) | exact HB.out)))); (case aL => have := LMc2.out; omega); intro v130 w5 ho hb hg hat; rw [← Ny129.out] at ho; have n0_ := Aside0.mk (hb); have n1_ := Aside0.mk (ho); clear HB; clear HO128; have HB := n0_; have HO131 := n1_; clear n0_ n1_; clear ho hb hg hat))
  go_ret
  exact ⟨_, by first | rfl | (simp [errW_none, errW_some] <;> rfl) | (simp [*, errW_none, errW_some] <;> rfl), by (with_reducible repeat (first | apply Kd.R_alloc | apply Kd.R_drewN | apply Kd.R_drew)); exact HO131.out, by repeat (first | (with_reducible first | exact HB.out | apply below_alloc | apply pw_below_drewN | apply below_drew1) | exact HB.out)⟩
 ·rw [if_neg c2] at H
  exact absurd H (by simp)

/-! ### spec_l2Best: function 28 -/
def spec_l2Best.f (k : Nat) (l0 : List Int) : Option (List Int) := (spec_l2PackFixed.f k l0).bind fun t132 => (if (t132.length : Int) < (wrap64 ((l0.length : Int) + 5)) then (some t132) else ((spec_l2Stored.f l0).bind fun t135 => (some t135)))
set_option maxHeartbeats 8000000 in
set_option maxRecDepth 100000 in
theorem spec_l2Best.calls (k : Nat) (A0 : Option Addr) (c0 : Nat) (l0 : List Int) (r : List Int) (w : World) (hr0 : Kd.C (Kd.int .u8) w A0 l0.length l0) (hc0 : l0.length ≤ c0) (h : spec_l2Best.f k l0 = some r) :
  Calls Try.prog 28 #[.slice A0 l0.length c0] w fun e w' => ∃ v0_ : Value, e = .returned (v0_) ∧ Kd.R (Kd.int .u8) 5 w' w.heap.size (fun _ => True) v0_ r ∧ Below w.heap.size w w' := by
 have HR0 := Aside0.mk hr0
 have HC0 := Aside0.mk hc0
 clear hr0 hc0
 have HB := Aside0.mk (Below.refl w.heap.size w)
 have H : ((spec_l2PackFixed.f k l0).bind fun t132 => (if (t132.length : Int) < (wrap64 ((l0.length : Int) + 5)) then (some t132) else ((spec_l2Stored.f l0).bind fun t135 => (some t135)))) = some r := h
 clear h
 replace H := Option.bind_eq_some_iff.mp H
 obtain ⟨t132, A20, H⟩ := H
 replace H : (if (t132.length : Int) < (wrap64 ((l0.length : Int) + 5)) then (some t132) else ((spec_l2Stored.f l0).bind fun t135 => (some t135))) = some r := H
 have A2 := Aside0.mk A20
 clear A20
 by_cases c3 : (t132.length : Int) < (wrap64 ((l0.length : Int) + 5))
 ·rw [if_pos c3] at H
  have c3b0 : decide ((t132.length : Int) < (wrap64 ((l0.length : Int) + 5))) = true := decide_eq_true c3
  clear c3
  obtain rfl := Option.some.inj H
  go_enter Try.func28, Try.ntmps28
  go_wp2_with (first | ((with_reducible refine gate_callee (f := 19) rfl ?_); refine goesL_ (some 5) rfl rfl Try.func19 (by kernel_rfl) rfl #[.slice A0 l0.length c0] rfl (by (try simp only [List.map_toArray, List.map_cons, List.map_nil]); first | done | rfl | (simp only [List.length_drop, List.length_take]; rfl)) ?_; (with_reducible refine (spec_l2PackFixed.calls k _ _ l0 t132 _ ?side1 ?side2 A2.out).mono ?_); (case side1 => repeat (first | exact HR0.out | (with_reducible refine Kd.C_alloc ?_ _) | (with_reducible refine Kd.C_drewN ?_ _) | (with_reducible refine Kd.C_drew ?_))); (case side2 => exact HC0.out); rintro e w4 ⟨v133, rfl, ho0, hb⟩; refine ⟨_, rfl, ?_⟩; have n0_ := Aside0.mk (Kd.R_lower ho0 (below_size (by repeat (first | (with_reducible first | exact HB.out | apply below_alloc | apply pw_below_drewN | apply below_drew1) | exact HB.out)))); have n1_ := Aside0.mk (below_step (by repeat (first | (with_reducible first | exact HB.out | apply below_alloc | apply pw_below_drewN | apply below_drew1) | exact HB.out)) hb); clear HB; have HO134 := n0_; have HB := n1_; clear n0_ n1_; (try clear hb); (try clear hb2); (try clear hk); (try clear hi); (try clear ho0); obtain ⟨Ao5, co5, eo5⟩ := Kd.R_slice HO134.out; subst eo5))
  go_ret
  exact ⟨_, by first | rfl | (simp [errW_none, errW_some] <;> rfl) | (simp [*, errW_none, errW_some] <;> rfl), by (with_reducible repeat (first | apply Kd.R_alloc | apply Kd.R_drewN | apply Kd.R_drew)); exact HO134.out, by repeat (first | (with_reducible first | exact HB.out | apply below_alloc | apply pw_below_drewN | apply below_drew1) | exact HB.out)⟩
 ·rw [if_neg c3] at H
  have c3b0 : decide ((t132.length : Int) < (wrap64 ((l0.length : Int) + 5))) = false := decide_eq_false c3
  clear c3
  replace H := Option.bind_eq_some_iff.mp H
  obtain ⟨t135, A60, H⟩ := H
  replace H : (some t135) = some r := H
  have A6 := Aside0.mk A60
  clear A60
  obtain rfl := Option.some.inj H
  go_enter Try.func28, Try.ntmps28
  go_wp2_with (first | ((with_reducible refine gate_callee (f := 19) rfl ?_); refine goesL_ (some 5) rfl rfl Try.func19 (by kernel_rfl) rfl #[.slice A0 l0.length c0] rfl (by (try simp only [List.map_toArray, List.map_cons, List.map_nil]); first | done | rfl | (simp only [List.length_drop, List.length_take]; rfl)) ?_; (with_reducible refine (spec_l2PackFixed.calls k _ _ l0 t132 _ ?side1 ?side2 A2.out).mono ?_); (case side1 => repeat (first | exact HR0.out | (with_reducible refine Kd.C_alloc ?_ _) | (with_reducible refine Kd.C_drewN ?_ _) | (with_reducible refine Kd.C_drew ?_))); (case side2 => exact HC0.out); rintro e w7 ⟨v133, rfl, ho0, hb⟩; refine ⟨_, rfl, ?_⟩; have n0_ := Aside0.mk (Kd.R_lower ho0 (below_size (by repeat (first | (with_reducible first | exact HB.out | apply below_alloc | apply pw_below_drewN | apply below_drew1) | exact HB.out)))); have n1_ := Aside0.mk (below_step (by repeat (first | (with_reducible first | exact HB.out | apply below_alloc | apply pw_below_drewN | apply below_drew1) | exact HB.out)) hb); clear HB; have HO134 := n0_; have HB := n1_; clear n0_ n1_; (try clear hb); (try clear hb2); (try clear hk); (try clear hi); (try clear ho0); obtain ⟨Ao8, co8, eo8⟩ := Kd.R_slice HO134.out; subst eo8) | ((with_reducible refine gate_callee (f := 55) rfl ?_); refine goesL_ (some 14) rfl rfl Try.func55 (by kernel_rfl) rfl #[.slice A0 l0.length c0] rfl (by (try simp only [List.map_toArray, List.map_cons, List.map_nil]); first | done | rfl | (simp only [List.length_drop, List.length_take]; rfl)) ?_; (with_reducible refine (spec_l2Stored.calls _ _ l0 t135 _ ?side1 ?side2 A6.out).mono ?_); (case side1 => repeat (first | exact (Kd.C_below HR0.out HB.out) | (with_reducible refine Kd.C_alloc ?_ _) | (with_reducible refine Kd.C_drewN ?_ _) | (with_reducible refine Kd.C_drew ?_))); (case side2 => exact HC0.out); rintro e w9 ⟨v136, rfl, ho0, hb⟩; refine ⟨_, rfl, ?_⟩; have n0_ := Aside0.mk (Kd.R_elder' (by (with_reducible repeat (first | apply Kd.R_alloc | apply Kd.R_drewN | apply Kd.R_drew)); exact HO134.out) (Kd.R_base ho0) hb); have n1_ := Aside0.mk (Kd.R_lower (Kd.R_new' ho0 (Kd.R_lt (by (with_reducible repeat (first | apply Kd.R_alloc | apply Kd.R_drewN | apply Kd.R_drew)); exact HO134.out))) (below_size (by repeat (first | (with_reducible first | exact HB.out | apply below_alloc | apply pw_below_drewN | apply below_drew1) | exact HB.out)))); have n2_ := Aside0.mk (below_step (by repeat (first | (with_reducible first | exact HB.out | apply below_alloc | apply pw_below_drewN | apply below_drew1) | exact HB.out)) hb); clear HO134; clear HB; have HO134 := n0_; have HO137 := n1_; have HB := n2_; clear n0_ n1_ n2_; (try clear hb); (try clear hb2); (try clear hk); (try clear hi); (try clear ho0)))
  go_ret
  exact ⟨_, by first | rfl | (simp [errW_none, errW_some] <;> rfl) | (simp [*, errW_none, errW_some] <;> rfl), by (with_reducible repeat (first | apply Kd.R_alloc | apply Kd.R_drewN | apply Kd.R_drew)); exact Kd.R_mono HO137.out (fun _ hk => trivial), by repeat (first | (with_reducible first | exact HB.out | apply below_alloc | apply pw_below_drewN | apply below_drew1) | exact HB.out)⟩

/-! ### spec_PackBest: function 13 -/
def spec_PackBest.f (k : Nat) (l0 : List Int) : Option (List Int × Bool) := if (l0.length : Int) > 6000 then (some (([] : List Int), false)) else ((spec_l2Best.f k l0).bind fun t138 => (some (t138, true)))
set_option maxHeartbeats 8000000 in
set_option maxRecDepth 100000 in
theorem spec_PackBest.calls (k : Nat) (A0 : Option Addr) (c0 : Nat) (l0 : List Int) (r1 : List Int) (r2 : Bool) (w : World) (hr0 : Kd.C (Kd.int .u8) w A0 l0.length l0) (hc0 : l0.length ≤ c0) (h : spec_PackBest.f k l0 = some (r1, r2)) :
  Calls Try.prog 13 #[.slice A0 l0.length c0] w fun e w' => ∃ v0_ : Value, e = .returned (.tuple #[v0_, .bool r2]) ∧ Kd.R (Kd.int .u8) 5 w' w.heap.size (fun _ => True) v0_ r1 ∧ Below w.heap.size w w' := by
 have HR0 := Aside0.mk hr0
 have HC0 := Aside0.mk hc0
 clear hr0 hc0
 have HB := Aside0.mk (Below.refl w.heap.size w)
 have H : (if (l0.length : Int) > 6000 then (some (([] : List Int), false)) else ((spec_l2Best.f k l0).bind fun t138 => (some (t138, true)))) = some (r1, r2) := h
 clear h
 by_cases c2 : (l0.length : Int) > 6000
 ·rw [if_pos c2] at H
  have c2b0 : decide (6000 < (l0.length : Int)) = true := decide_eq_true c2
  have c2b1 : decide (6000 < l0.length) = true := decide_eq_true (by omega)
  clear c2
  simp only [Option.some.injEq, Prod.mk.injEq] at H
  obtain ⟨rfl, rfl⟩ := H
  go_enter Try.func13, Try.ntmps13
  go_wp2
  go_ret2
  exact ⟨_, by first | rfl | (simp [errW_none, errW_some] <;> rfl) | (simp [*, errW_none, errW_some] <;> rfl), by first | exact Kd.R_nil _ _ _ _ _ | exact Kd.N_nil _ _ _ _ _ | exact Kd.V_nil _ _ _ _ _ | exact Kd.Q_nil _ _ _ _ _ | exact Kd.S_nil _ _ _ _ _, by repeat (first | (with_reducible first | exact HB.out | apply below_alloc | apply pw_below_drewN | apply below_drew1) | exact HB.out)⟩
 ·rw [if_neg c2] at H
  have c2b0 : decide (6000 < (l0.length : Int)) = false := decide_eq_false c2
  have c2b1 : decide (6000 < l0.length) = false := decide_eq_false (by omega)
  clear c2
  replace H := Option.bind_eq_some_iff.mp H
  obtain ⟨t138, A30, H⟩ := H
  replace H : (some (t138, true)) = some (r1, r2) := H
  have A3 := Aside0.mk A30
  clear A30
  simp only [Option.some.injEq, Prod.mk.injEq] at H
  obtain ⟨rfl, rfl⟩ := H
  go_enter Try.func13, Try.ntmps13
  go_wp2_with (first | ((with_reducible refine gate_callee (f := 28) rfl ?_); refine goesL_ (some 8) rfl rfl Try.func28 (by kernel_rfl) rfl #[.slice A0 l0.length c0] rfl (by (try simp only [List.map_toArray, List.map_cons, List.map_nil]); first | done | rfl | (simp only [List.length_drop, List.length_take]; rfl)) ?_; (with_reducible refine (spec_l2Best.calls k _ _ l0 t138 _ ?side1 ?side2 A3.out).mono ?_); (case side1 => repeat (first | exact HR0.out | (with_reducible refine Kd.C_alloc ?_ _) | (with_reducible refine Kd.C_drewN ?_ _) | (with_reducible refine Kd.C_drew ?_))); (case side2 => exact HC0.out); rintro e w4 ⟨v139, rfl, ho0, hb⟩; refine ⟨_, rfl, ?_⟩; have n0_ := Aside0.mk (Kd.R_lower ho0 (below_size (by repeat (first | (with_reducible first | exact HB.out | apply below_alloc | apply pw_below_drewN | apply below_drew1) | exact HB.out)))); have n1_ := Aside0.mk (below_step (by repeat (first | (with_reducible first | exact HB.out | apply below_alloc | apply pw_below_drewN | apply below_drew1) | exact HB.out)) hb); clear HB; have HO140 := n0_; have HB := n1_; clear n0_ n1_; (try clear hb); (try clear hb2); (try clear hk); (try clear hi); (try clear ho0)))
  go_ret2
  exact ⟨_, by first | rfl | (simp [errW_none, errW_some] <;> rfl) | (simp [*, errW_none, errW_some] <;> rfl), by (with_reducible repeat (first | apply Kd.R_alloc | apply Kd.R_drewN | apply Kd.R_drew)); exact HO140.out, by repeat (first | (with_reducible first | exact HB.out | apply below_alloc | apply pw_below_drewN | apply below_drew1) | exact HB.out)⟩

/-! ### impl_fixedLengths: function 20 -/
def impl_fixedLengths.l0 : Nat → List Int → Int → Option (List Int)
 | 0, _, _ => none
 | k + 1, x1, x4 => if x4 < 288 then (if x4 < 144 then (if x1.length < 17592186044416 then (impl_fixedLengths.l0 k (x1 ++ [8]) (wrap64 (x4 + 1))) else (none)) else (if x4 < 256 then (if x1.length < 17592186044416 then (impl_fixedLengths.l0 k (x1 ++ [9]) (wrap64 (x4 + 1))) else (none)) else (if x4 < 280 then (if x1.length < 17592186044416 then (impl_fixedLengths.l0 k (x1 ++ [7]) (wrap64 (x4 + 1))) else (none)) else (if x1.length < 17592186044416 then (impl_fixedLengths.l0 k (x1 ++ [8]) (wrap64 (x4 + 1))) else (none))))) else (some x1)
def impl_fixedLengths.f (k : Nat)  : Option (List Int) := impl_fixedLengths.l0 k (([] : List Int)) 0
set_option maxHeartbeats 8000000 in
set_option maxRecDepth 100000 in
theorem impl_fixedLengths.calls (k : Nat)  (r : List Int) (w : World) (h : impl_fixedLengths.f k  = some r) :
  Calls Try.prog 20 #[] w fun e w' => ∃ v0_ : Value, e = .returned (v0_) ∧ Kd.R (Kd.int .i64) 3 w' w.heap.size (fun _ => True) v0_ r ∧ Below w.heap.size w w' := by
 have HB := Aside0.mk (Below.refl w.heap.size w)
 have H : (impl_fixedLengths.l0 k (([] : List Int)) 0) = some r := h
 clear h
 obtain ⟨y141, hy141⟩ : ∃ y_ : List Int, y_ = (([] : List Int)) := ⟨_, rfl⟩
 replace H : (impl_fixedLengths.l0 k y141 0) = some r := by first | (rw [hy141]; with_reducible exact H) | (have H2_ := (Option.bind_some _ _).symm.trans H; rw [hy141]; with_reducible exact H2_) | (have H2_ := (Option.bind_some _ _).symm.trans H; with_reducible exact H2_) | with_reducible exact H | (rw [hy141]; exact H) | exact H
 have Ny141 := Aside0.mk hy141
 clear hy141
 have H' := Aside0.mk H
 clear H
 go_enter Try.func20, Try.ntmps20
 go_wp2_with (first | ((with_reducible refine gate_dst (N := 3) rfl ?_); refine Kd.R_lit (Kd.int .i64) _ 3 ?hg (N := 3) ?hd (xs := ([] : List Int)) (inner := []) (ok := fun _ => True) (okp := fun _ => True) ?hr ?hp (fun _ hk => hk) trivial (Below.refl _ _) (Nat.le_refl _) (by simp) ?_; (case hd => rfl); (case hg => rfl); (case hr => first | (go_simp; done) | (go_simp; rfl)); (case hp => exact (Reps.none _ _)); intro v142 w1 ho2 hb hg_ hnew_; clear hg_ hnew_; (first | rw [← Ny141.out] at ho2 | (simp only [Int.reduceToNat] at ho2; rw [← Ny141.out] at ho2)); have n0_ := Aside0.mk (Kd.R_lower ho2 (below_size (by repeat (first | (with_reducible first | exact HB.out | apply below_alloc | apply pw_below_drewN | apply below_drew1) | exact HB.out)))); have n1_ := Aside0.mk (below_step (by repeat (first | (with_reducible first | exact HB.out | apply below_alloc | apply pw_below_drewN | apply below_drew1) | exact HB.out)) hb); clear HB; have HO143 := n0_; have HB := n1_; clear n0_ n1_; clear hb ho2))
 go_loopg [1, 4] k (fun kq v1 v4 w' => ∃ (x1_1 : List Int) (x4_1 : Int), v4 = .int .i64 x4_1 ∧ Aside0 (impl_fixedLengths.l0 kq x1_1 x4_1 = some r) ∧ Aside0 (kq ≤ k) ∧ Aside0 (Kd.R (Kd.int .i64) 3 w' w.heap.size (fun _ => True) v1 x1_1) ∧ Aside0 (Below w.heap.size w w'))
 case atStart => exact ⟨(y141), (0), (by first | rfl | (simp; done) | (simp [*]; done) | (simp [wrap64]; done)), H', ⟨Nat.le_refl _⟩, ⟨by (with_reducible repeat (first | apply Kd.R_alloc | apply Kd.R_drewN | apply Kd.R_drew)); exact HO143.out⟩, ⟨by repeat (first | (with_reducible first | exact HB.out | apply below_alloc | apply pw_below_drewN | apply below_drew1) | exact HB.out)⟩⟩
 case round =>
  clear H'
  (try clear c2);(try clear p2)
  obtain ⟨x1_1, x4_1, rfl, HA, HK1, HO_1, HB⟩ := hrel
  cases gk with
  | zero => exact absurd HA.out (by simp [impl_fixedLengths.l0])
  | succ k1 =>
   have H := HA.out
   clear HA
   simp only [impl_fixedLengths.l0] at H
   by_cases c3 : x4_1 < 288
   ·rw [if_pos c3] at H
    have c3b0 : decide (x4_1 < 288) = true := decide_eq_true c3
    clear c3
    by_cases c4 : x4_1 < 144
    ·rw [if_pos c4] at H
     have c4b0 : decide (x4_1 < 144) = true := decide_eq_true c4
     clear c4
     by_cases c5 : x1_1.length < 17592186044416
     ·rw [if_pos c5] at H
      have LMc5 := Aside0.mk c5
      clear c5
      obtain ⟨y144, hy144⟩ : ∃ y_ : List Int, y_ = (x1_1 ++ [8]) := ⟨_, rfl⟩
      replace H : (impl_fixedLengths.l0 k1 y144 (wrap64 (x4_1 + 1))) = some r := by first | (rw [hy144]; with_reducible exact H) | (have H2_ := (Option.bind_some _ _).symm.trans H; rw [hy144]; with_reducible exact H2_) | (have H2_ := (Option.bind_some _ _).symm.trans H; with_reducible exact H2_) | with_reducible exact H | (rw [hy144]; exact H) | exact H
      have Ny144 := Aside0.mk hy144
      clear hy144
      have H' := Aside0.mk H
      clear H
      go_wp2_with (first | ((with_reducible refine gate_builtin (b := .append) (xs := #[.tmp 13, .tmp 14]) rfl ?_); at_builtin; refine Kd.R_append (Kd.int .i64) (w0 := w) w.heap.size rfl (.tmp 13) (.tmp 14) 33 3 (.int .i64 0) 8 rfl Try.underlying33 info3 rfl (by decide) (by omega) u1 x1_1 8 [.int .i64 8] (fun _ => True) (fun _ => False) rfl rfl ?aP (fun _ hk => hk.elim) ?aF ?aO ?aB ?aS ?aL ?_; (case aP => exact rfl); (case aB => exact (by repeat (first | (with_reducible first | exact HB.out | apply below_alloc | apply pw_below_drewN | apply below_drew1) | exact HB.out))); (case aF => exact (fun _ _ => trivial)); (case aO => exact (by (with_reducible repeat (first | apply Kd.R_alloc | apply Kd.R_drewN | apply Kd.R_drew)); exact HO_1.out)); (case aS => exact (below_size (by repeat (first | (with_reducible first | exact HB.out | apply below_alloc | apply pw_below_drewN | apply below_drew1) | exact HB.out)))); (case aL => have := LMc5.out; omega); intro v145 w6 ho hb hg hat; rw [← Ny144.out] at ho; have n0_ := Aside0.mk (hb); have n1_ := Aside0.mk (ho); clear HB; clear HO_1; have HB := n0_; have HO146 := n1_; clear n0_ n1_; clear ho hb hg hat))
      go_roundg k1
      case measure => have := HK1.out; omega
      case rel => exact ⟨(y144), (wrap64 (x4_1 + 1)), (by first | rfl | (simp; done) | (simp [*]; done) | (simp [wrap64]; done)), H', ⟨by have := HK1.out; omega⟩, ⟨by (with_reducible repeat (first | apply Kd.R_alloc | apply Kd.R_drewN | apply Kd.R_drew)); exact HO146.out⟩, ⟨by repeat (first | (with_reducible first | exact HB.out | apply below_alloc | apply pw_below_drewN | apply below_drew1) | exact HB.out)⟩⟩
     ·rw [if_neg c5] at H
      exact absurd H (by simp)
    ·rw [if_neg c4] at H
     have c4b0 : decide (x4_1 < 144) = false := decide_eq_false c4
     clear c4
     by_cases c7 : x4_1 < 256
     ·rw [if_pos c7] at H
      have c7b0 : decide (x4_1 < 256) = true := decide_eq_true c7
      clear c7
      by_cases c8 : x1_1.length < 17592186044416
      ·rw [if_pos c8] at H
       have LMc8 := Aside0.mk c8
       clear c8
       obtain ⟨y147, hy147⟩ : ∃ y_ : List Int, y_ = (x1_1 ++ [9]) := ⟨_, rfl⟩
       replace H : (impl_fixedLengths.l0 k1 y147 (wrap64 (x4_1 + 1))) = some r := by first | (rw [hy147]; with_reducible exact H) | (have H2_ := (Option.bind_some _ _).symm.trans H; rw [hy147]; with_reducible exact H2_) | (have H2_ := (Option.bind_some _ _).symm.trans H; with_reducible exact H2_) | with_reducible exact H | (rw [hy147]; exact H) | exact H
       have Ny147 := Aside0.mk hy147
       clear hy147
       have H' := Aside0.mk H
       clear H
       go_wp2_with (first | ((with_reducible refine gate_builtin (b := .append) (xs := #[.tmp 19, .tmp 20]) rfl ?_); at_builtin; refine Kd.R_append (Kd.int .i64) (w0 := w) w.heap.size rfl (.tmp 19) (.tmp 20) 33 3 (.int .i64 0) 8 rfl Try.underlying33 info3 rfl (by decide) (by omega) u1 x1_1 9 [.int .i64 9] (fun _ => True) (fun _ => False) rfl rfl ?aP (fun _ hk => hk.elim) ?aF ?aO ?aB ?aS ?aL ?_; (case aP => exact rfl); (case aB => exact (by repeat (first | (with_reducible first | exact HB.out | apply below_alloc | apply pw_below_drewN | apply below_drew1) | exact HB.out))); (case aF => exact (fun _ _ => trivial)); (case aO => exact (by (with_reducible repeat (first | apply Kd.R_alloc | apply Kd.R_drewN | apply Kd.R_drew)); exact HO_1.out)); (case aS => exact (below_size (by repeat (first | (with_reducible first | exact HB.out | apply below_alloc | apply pw_below_drewN | apply below_drew1) | exact HB.out)))); (case aL => have := LMc8.out; omega); intro v148 w9 ho hb hg hat; rw [← Ny147.out] at ho; have n0_ := Aside0.mk (hb); have n1_ := Aside0.mk (ho); clear HB; clear HO_1; have HB := n0_; have HO149 := n1_; clear n0_ n1_; clear ho hb hg hat))
       go_roundg k1
       case measure => have := HK1.out; omega
       case rel => exact ⟨(y147), (wrap64 (x4_1 + 1)), (by first | rfl | (simp; done) | (simp [*]; done) | (simp [wrap64]; done)), H', ⟨by have := HK1.out; omega⟩, ⟨by (with_reducible repeat (first | apply Kd.R_alloc | apply Kd.R_drewN | apply Kd.R_drew)); exact HO149.out⟩, ⟨by repeat (first | (with_reducible first | exact HB.out | apply below_alloc | apply pw_below_drewN | apply below_drew1) | exact HB.out)⟩⟩
      ·rw [if_neg c8] at H
       exact absurd H (by simp)
     ·rw [if_neg c7] at H
      have c7b0 : decide (x4_1 < 256) = false := decide_eq_false c7
      clear c7
      by_cases c10 : x4_1 < 280
      ·rw [if_pos c10] at H
       have c10b0 : decide (x4_1 < 280) = true := decide_eq_true c10
       clear c10
       by_cases c11 : x1_1.length < 17592186044416
       ·rw [if_pos c11] at H
        have LMc11 := Aside0.mk c11
        clear c11
        obtain ⟨y150, hy150⟩ : ∃ y_ : List Int, y_ = (x1_1 ++ [7]) := ⟨_, rfl⟩
        replace H : (impl_fixedLengths.l0 k1 y150 (wrap64 (x4_1 + 1))) = some r := by first | (rw [hy150]; with_reducible exact H) | (have H2_ := (Option.bind_some _ _).symm.trans H; rw [hy150]; with_reducible exact H2_) | (have H2_ := (Option.bind_some _ _).symm.trans H; with_reducible exact H2_) | with_reducible exact H | (rw [hy150]; exact H) | exact H
        have Ny150 := Aside0.mk hy150
        clear hy150
        have H' := Aside0.mk H
        clear H
        go_wp2_with (first | ((with_reducible refine gate_builtin (b := .append) (xs := #[.tmp 25, .tmp 26]) rfl ?_); at_builtin; refine Kd.R_append (Kd.int .i64) (w0 := w) w.heap.size rfl (.tmp 25) (.tmp 26) 33 3 (.int .i64 0) 8 rfl Try.underlying33 info3 rfl (by decide) (by omega) u1 x1_1 7 [.int .i64 7] (fun _ => True) (fun _ => False) rfl rfl ?aP (fun _ hk => hk.elim) ?aF ?aO ?aB ?aS ?aL ?_; (case aP => exact rfl); (case aB => exact (by repeat (first | (with_reducible first | exact HB.out | apply below_alloc | apply pw_below_drewN | apply below_drew1) | exact HB.out))); (case aF => exact (fun _ _ => trivial)); (case aO => exact (by (with_reducible repeat (first | apply Kd.R_alloc | apply Kd.R_drewN | apply Kd.R_drew)); exact HO_1.out)); (case aS => exact (below_size (by repeat (first | (with_reducible first | exact HB.out | apply below_alloc | apply pw_below_drewN | apply below_drew1) | exact HB.out)))); (case aL => have := LMc11.out; omega); intro v151 w12 ho hb hg hat; rw [← Ny150.out] at ho; have n0_ := Aside0.mk (hb); have n1_ := Aside0.mk (ho); clear HB; clear HO_1; have HB := n0_; have HO152 := n1_; clear n0_ n1_; clear ho hb hg hat))
        go_roundg k1
        case measure => have := HK1.out; omega
        case rel => exact ⟨(y150), (wrap64 (x4_1 + 1)), (by first | rfl | (simp; done) | (simp [*]; done) | (simp [wrap64]; done)), H', ⟨by have := HK1.out; omega⟩, ⟨by (with_reducible repeat (first | apply Kd.R_alloc | apply Kd.R_drewN | apply Kd.R_drew)); exact HO152.out⟩, ⟨by repeat (first | (with_reducible first | exact HB.out | apply below_alloc | apply pw_below_drewN | apply below_drew1) | exact HB.out)⟩⟩
       ·rw [if_neg c11] at H
        exact absurd H (by simp)
      ·rw [if_neg c10] at H
       have c10b0 : decide (x4_1 < 280) = false := decide_eq_false c10
       clear c10
       by_cases c13 : x1_1.length < 17592186044416
       ·rw [if_pos c13] at H
        have LMc13 := Aside0.mk c13
        clear c13
        obtain ⟨y153, hy153⟩ : ∃ y_ : List Int, y_ = (x1_1 ++ [8]) := ⟨_, rfl⟩
        replace H : (impl_fixedLengths.l0 k1 y153 (wrap64 (x4_1 + 1))) = some r := by first | (rw [hy153]; with_reducible exact H) | (have H2_ := (Option.bind_some _ _).symm.trans H; rw [hy153]; with_reducible exact H2_) | (have H2_ := (Option.bind_some _ _).symm.trans H; with_reducible exact H2_) | with_reducible exact H | (rw [hy153]; exact H) | exact H
        have Ny153 := Aside0.mk hy153
        clear hy153
        have H' := Aside0.mk H
        clear H
        go_wp2_with (first | ((with_reducible refine gate_builtin (b := .append) (xs := #[.tmp 7, .tmp 8]) rfl ?_); at_builtin; refine Kd.R_append (Kd.int .i64) (w0 := w) w.heap.size rfl (.tmp 7) (.tmp 8) 33 3 (.int .i64 0) 8 rfl Try.underlying33 info3 rfl (by decide) (by omega) u1 x1_1 8 [.int .i64 8] (fun _ => True) (fun _ => False) rfl rfl ?aP (fun _ hk => hk.elim) ?aF ?aO ?aB ?aS ?aL ?_; (case aP => exact rfl); (case aB => exact (by repeat (first | (with_reducible first | exact HB.out | apply below_alloc | apply pw_below_drewN | apply below_drew1) | exact HB.out))); (case aF => exact (fun _ _ => trivial)); (case aO => exact (by (with_reducible repeat (first | apply Kd.R_alloc | apply Kd.R_drewN | apply Kd.R_drew)); exact HO_1.out)); (case aS => exact (below_size (by repeat (first | (with_reducible first | exact HB.out | apply below_alloc | apply pw_below_drewN | apply below_drew1) | exact HB.out)))); (case aL => have := LMc13.out; omega); intro v154 w14 ho hb hg hat; rw [← Ny153.out] at ho; have n0_ := Aside0.mk (hb); have n1_ := Aside0.mk (ho); clear HB; clear HO_1; have HB := n0_; have HO155 := n1_; clear n0_ n1_; clear ho hb hg hat))
        go_roundg k1
        case measure => have := HK1.out; omega
        case rel => exact ⟨(y153), (wrap64 (x4_1 + 1)), (by first | rfl | (simp; done) | (simp [*]; done) | (simp [wrap64]; done)), H', ⟨by have := HK1.out; omega⟩, ⟨by (with_reducible repeat (first | apply Kd.R_alloc | apply Kd.R_drewN | apply Kd.R_drew)); exact HO155.out⟩, ⟨by repeat (first | (with_reducible first | exact HB.out | apply below_alloc | apply pw_below_drewN | apply below_drew1) | exact HB.out)⟩⟩
       ·rw [if_neg c13] at H
        exact absurd H (by simp)
   ·rw [if_neg c3] at H
    have c3b0 : decide (x4_1 < 288) = false := decide_eq_false c3
    clear c3
    obtain rfl := Option.some.inj H
    go_wp2
    go_ret
    exact ⟨_, by first | rfl | (simp [errW_none, errW_some] <;> rfl) | (simp [*, errW_none, errW_some] <;> rfl), by (with_reducible repeat (first | apply Kd.R_alloc | apply Kd.R_drewN | apply Kd.R_drew)); exact HO_1.out, by repeat (first | (with_reducible first | exact HB.out | apply below_alloc | apply pw_below_drewN | apply below_drew1) | exact HB.out)⟩

/-! ### impl_codesBy: function 21 -/
mutual
def impl_codesBy.l0 : Nat → List Int → List Int → Int → Int → Int → Option (List Int × Int)
 | 0, _, _, _, _, _ => none
 | k + 1, x0, x4, x5, x6, x7 => if x7 ≤ 15 then (impl_codesBy.l1 k x0 x4 x5 (wrap64 (x6 * 2)) x7 x0 (x0.length : Int) 0) else (some (x4, x5))
def impl_codesBy.l1 : Nat → List Int → List Int → Int → Int → Int → List Int → Int → Int → Option (List Int × Int)
 | 0, _, _, _, _, _, _, _, _ => none
 | k + 1, x0, x4, x5, x6, x7, x19, x20, x21 => if x21 < x20 then (if 0 ≤ x21 then (if x21 < (x19.length : Int) then (if (rd x19 x21) = x7 then (if x21 < (x4.length : Int) then (if 0 ≤ (wrap64 (15 - x7)) then (impl_codesBy.l1 k x0 (x4.set (x21 : Int).toNat x6) (wrap64 (x5 + (shl .i64 1 (wrap64 (15 - x7))))) (wrap64 (x6 + 1)) x7 x19 x20 (wrap64 (x21 + 1))) else (none)) else (none)) else (impl_codesBy.l1 k x0 x4 x5 x6 x7 x19 x20 (wrap64 (x21 + 1)))) else (none)) else (none)) else (impl_codesBy.l0 k x0 x4 x5 x6 (wrap64 (x7 + 1)))
end
def impl_codesBy.f (k : Nat) (l0 : List Int) : Option (List Int × Int) := if 0 ≤ (l0.length : Int) then (if ((l0.length : Int) : Int).toNat ≤ 35184372088832 then (impl_codesBy.l0 k l0 (List.replicate ((l0.length : Int) : Int).toNat 0) 0 0 1) else (none)) else (none)
set_option maxHeartbeats 8000000 in
set_option maxRecDepth 100000 in
theorem impl_codesBy.calls (k : Nat) (A0 : Option Addr) (c0 : Nat) (l0 : List Int) (r1 : List Int) (r2 : Int) (w : World) (hr0 : Kd.C (Kd.int .i64) w A0 l0.length l0) (hc0 : l0.length ≤ c0) (h : impl_codesBy.f k l0 = some (r1, r2)) :
  Calls Try.prog 21 #[.slice A0 l0.length c0] w fun e w' => ∃ v0_ : Value, e = .returned (.tuple #[v0_, .int .i64 r2]) ∧ Kd.R (Kd.int .i64) 3 w' w.heap.size (fun _ => True) v0_ r1 ∧ Below w.heap.size w w' := by
 have HR0 := Aside0.mk hr0
 have HC0 := Aside0.mk hc0
 clear hr0 hc0
 have HB := Aside0.mk (Below.refl w.heap.size w)
 have H : (if 0 ≤ (l0.length : Int) then (if ((l0.length : Int) : Int).toNat ≤ 35184372088832 then (impl_codesBy.l0 k l0 (List.replicate ((l0.length : Int) : Int).toNat 0) 0 0 1) else (none)) else (none)) = some (r1, r2) := h
 clear h
 by_cases c2 : 0 ≤ (l0.length : Int)
 ·rw [if_pos c2] at H
  have c2b0 := eq_true c2
  have c2b1 : decide (0 ≤ (l0.length : Int)) = true := decide_eq_true c2
  clear c2
  by_cases c3 : ((l0.length : Int) : Int).toNat ≤ 35184372088832
  ·rw [if_pos c3] at H
   have c3b0 := eq_true c3
   have c3b1 : decide (((l0.length : Int) : Int).toNat ≤ 35184372088832) = true := decide_eq_true c3
   clear c3
   obtain ⟨y156, hy156⟩ : ∃ y_ : List Int, y_ = (List.replicate ((l0.length : Int) : Int).toNat 0) := ⟨_, rfl⟩
   replace H : (impl_codesBy.l0 k l0 y156 0 0 1) = some (r1, r2) := by first | (rw [hy156]; with_reducible exact H) | (have H2_ := (Option.bind_some _ _).symm.trans H; rw [hy156]; with_reducible exact H2_) | (have H2_ := (Option.bind_some _ _).symm.trans H; with_reducible exact H2_) | with_reducible exact H | (rw [hy156]; exact H) | exact H
   have Ny156 := Aside0.mk hy156
   clear hy156
   have H' := Aside0.mk H
   clear H
   go_enter Try.func21, Try.ntmps21
   go_wp2_with (first | ((with_reducible refine gate_dst (N := 12) rfl ?_); refine Kd.R_make (Kd.int .i64) _ 3 rfl (N := 12) rfl 33 _ _ rfl (l0.length : Int) rfl rfl Try.underlying33 (.int .i64 0) 8 info3 rfl (by decide) (by omega) 0 (ok := fun _ => True) (okp := fun _ => True) rfl (fun _ hk => hk) trivial (of_decide_eq_true (by first | (with_reducible assumption) | assumption)) (Nat.le_trans (Nat.mul_le_mul_right _ (of_decide_eq_true (by first | (with_reducible assumption) | assumption) : (l0.length : Int).toNat ≤ 35184372088832)) (by omega)) (Below.refl _ _) (Nat.le_refl _) ?_; intro v157 w4 ho5 hb hg_ hnew_; clear hg_ hnew_; (first | rw [← Ny156.out] at ho5 | (simp only [Int.reduceToNat] at ho5; rw [← Ny156.out] at ho5)); have n0_ := Aside0.mk (Kd.R_lower ho5 (below_size (by repeat (first | (with_reducible first | exact HB.out | apply below_alloc | apply pw_below_drewN | apply below_drew1) | exact HB.out)))); have n1_ := Aside0.mk (below_step (by repeat (first | (with_reducible first | exact HB.out | apply below_alloc | apply pw_below_drewN | apply below_drew1) | exact HB.out)) hb); clear HB; have HO158 := n0_; have HB := n1_; clear n0_ n1_; clear hb ho5))
   go_loopg [5, 6, 7] k (fun kq v5 v6 v7 w' => ∃ (x4_1 : List Int) (x5_1 : Int) (x6_1 : Int) (x7_1 : Int), v5 = .int .i64 x5_1 ∧ v6 = .int .i64 x6_1 ∧ v7 = .int .i64 x7_1 ∧ Aside0 (impl_codesBy.l0 kq l0 x4_1 x5_1 x6_1 x7_1 = some (r1, r2)) ∧ Aside0 (kq ≤ k) ∧ Aside0 (Kd.R (Kd.int .i64) 3 w' w.heap.size (fun _ => True) v157 x4_1) ∧ Aside0 (Below w.heap.size w w'))
   case atStart => exact ⟨(y156), (0), (0), (1), (by first | rfl | (simp; done) | (simp [*]; done) | (simp [wrap64]; done)), (by first | rfl | (simp; done) | (simp [*]; done) | (simp [wrap64]; done)), (by first | rfl | (simp; done) | (simp [*]; done) | (simp [wrap64]; done)), H', ⟨Nat.le_refl _⟩, ⟨by (with_reducible repeat (first | apply Kd.R_alloc | apply Kd.R_drewN | apply Kd.R_drew)); exact HO158.out⟩, ⟨by repeat (first | (with_reducible first | exact HB.out | apply below_alloc | apply pw_below_drewN | apply below_drew1) | exact HB.out)⟩⟩
   case round =>
    clear H'
    (try clear c2);(try clear c2b0);(try clear c2b1);(try clear p2);(try clear c3);(try clear c3b0);(try clear c3b1)
    obtain ⟨x4_1, x5_1, x6_1, x7_1, rfl, rfl, rfl, HA, HK1, HO_4, HB⟩ := hrel
    cases gk with
    | zero => exact absurd HA.out (by simp [impl_codesBy.l0])
    | succ k1 =>
     have H := HA.out
     clear HA
     simp only [impl_codesBy.l0] at H
     by_cases c6 : x7_1 ≤ 15
     ·rw [if_pos c6] at H
      have c6b0 : decide (x7_1 ≤ 15) = true := decide_eq_true c6
      clear c6
      have H' := Aside0.mk H
      clear H
      go_wp2
      go_loopg [5, 6, 21] k1 (fun kq v5 v6 v21 w' => ∃ (x4_2 : List Int) (x5_2 : Int) (x6_2 : Int) (x21_2 : Int), v5 = .int .i64 x5_2 ∧ v6 = .int .i64 x6_2 ∧ v21 = .int .i64 x21_2 ∧ Aside0 (impl_codesBy.l1 kq l0 x4_2 x5_2 x6_2 x7_1 l0 (l0.length : Int) x21_2 = some (r1, r2)) ∧ Aside0 (kq ≤ k1) ∧ Aside0 (Kd.R (Kd.int .i64) 3 w' w.heap.size (fun _ => True) v157 x4_2) ∧ Aside0 (Below w.heap.size w w'))
      case atStart => exact ⟨(x4_1), (x5_1), (wrap64 (x6_1 * 2)), (0), (by first | rfl | (simp; done) | (simp [*]; done) | (simp [wrap64]; done)), (by first | rfl | (simp; done) | (simp [*]; done) | (simp [wrap64]; done)), (by first | rfl | (simp; done) | (simp [*]; done) | (simp [wrap64]; done)), H', ⟨Nat.le_refl _⟩, ⟨by (with_reducible repeat (first | apply Kd.R_alloc | apply Kd.R_drewN | apply Kd.R_drew)); exact HO_4.out⟩, ⟨by repeat (first | (with_reducible first | exact HB.out | apply below_alloc | apply pw_below_drewN | apply below_drew1) | exact HB.out)⟩⟩
      case round =>
       clear H'
       (try clear c2);(try clear c2b0);(try clear c2b1);(try clear p2);(try clear c3);(try clear c3b0);(try clear c3b1);(try clear c6);(try clear c6b0);(try clear p6);(try clear p2)
       obtain ⟨x4_2, x5_2, x6_2, x21_2, rfl, rfl, rfl, HA, HK2, HO_4, HB⟩ := hrel
       cases gk with
       | zero => exact absurd HA.out (by simp [impl_codesBy.l1])
       | succ k2 =>
        have H := HA.out
        clear HA
        simp only [impl_codesBy.l1] at H
        by_cases c7 : x21_2 < (l0.length : Int)
        ·rw [if_pos c7] at H
         have c7b0 : decide (x21_2 < (l0.length : Int)) = true := decide_eq_true c7
         clear c7
         by_cases c8 : 0 ≤ x21_2
         ·rw [if_pos c8] at H
          have c8b0 : decide (0 ≤ x21_2) = true := decide_eq_true c8
          clear c8
          by_cases c9 : x21_2 < (l0.length : Int)
          ·rw [if_pos c9] at H
           have c9b0 : decide (x21_2 < (l0.length : Int)) = true := decide_eq_true c9
           clear c9
           by_cases c10 : (rd l0 x21_2) = x7_1
           ·rw [if_pos c10] at H
            have c10b0 : ((rd l0 x21_2) == x7_1) = true := beq_iff_eq.mpr c10
            have c10b1 : ((rd l0 x21_2) != x7_1) = false := bne_eq_false_iff_eq.mpr c10
            clear c10
            by_cases c11 : x21_2 < (x4_2.length : Int)
            ·rw [if_pos c11] at H
             have c11b0 : decide (x21_2 < (x4_2.length : Int)) = true := decide_eq_true c11
             clear c11
             obtain ⟨y160, hy160⟩ : ∃ y_ : List Int, y_ = (x4_2.set (x21_2 : Int).toNat x6_2) := ⟨_, rfl⟩
             replace H : (if 0 ≤ (wrap64 (15 - x7_1)) then (impl_codesBy.l1 k2 l0 y160 (wrap64 (x5_2 + (shl .i64 1 (wrap64 (15 - x7_1))))) (wrap64 (x6_2 + 1)) x7_1 l0 (l0.length : Int) (wrap64 (x21_2 + 1))) else (none)) = some (r1, r2) := by first | (rw [hy160]; with_reducible exact H) | (have H2_ := (Option.bind_some _ _).symm.trans H; rw [hy160]; with_reducible exact H2_) | (have H2_ := (Option.bind_some _ _).symm.trans H; with_reducible exact H2_) | with_reducible exact H | (rw [hy160]; exact H) | exact H
             have Ny160 := Aside0.mk hy160
             clear hy160
             obtain ⟨ji13, hji13⟩ : ∃ j_ : Int, (wrap64 (15 - x7_1)) = j_ := ⟨_, rfl⟩
             replace H : (if 0 ≤ (ji13) then (impl_codesBy.l1 k2 l0 y160 (wrap64 (x5_2 + (shl .i64 1 (ji13)))) (wrap64 (x6_2 + 1)) x7_1 l0 (l0.length : Int) (wrap64 (x21_2 + 1))) else (none)) = some (r1, r2) := by first | (rw [hji13] at H; exact H) | (simp only [hji13] at H ⊢; exact H)
             have hji13w : (IntKind.i64.wrap (15 - x7_1)) = ji13 := (i64_w _).trans hji13
             by_cases c14 : 0 ≤ (ji13)
             ·rw [if_pos c14] at H
              have c14b0 := eq_true c14
              have c14b1 : decide (0 ≤ (ji13)) = true := decide_eq_true c14
              clear c14
              obtain ⟨ji15, hji15⟩ : ∃ j_ : Int, (shl .i64 1 (ji13)) = j_ := ⟨_, rfl⟩
              replace H : (impl_codesBy.l1 k2 l0 y160 (wrap64 (x5_2 + (ji15))) (wrap64 (x6_2 + 1)) x7_1 l0 (l0.length : Int) (wrap64 (x21_2 + 1))) = some (r1, r2) := by first | (rw [hji15] at H; exact H) | (simp only [hji15] at H ⊢; exact H)
              have hji15_ : (IntKind.i64.wrap (1 * 2 ^ min (ji13).toNat 64)) = ji15 := hji15
              have hji15z : (ji13) ≤ 64 → (IntKind.i64.wrap (1 * 2 ^ (ji13).toNat)) = ji15 := shl_small hji15
              have hji15u : (IntKind.i64.wrap (2 ^ min (ji13).toNat 64)) = ji15 := by have h_ := hji15_; rw [Int.one_mul] at h_; exact h_
              have hji15v : (ji13) ≤ 64 → (IntKind.i64.wrap (2 ^ (ji13).toNat)) = ji15 := fun hle_ => by have h_ := hji15z hle_; rw [Int.one_mul] at h_; exact h_
              have hji15y : (wrap64 (1 * 2 ^ min (ji13).toNat 64)) = ji15 := (i64_w _).symm.trans hji15_
              have hji15x : (ji13) ≤ 64 → (wrap64 (1 * 2 ^ (ji13).toNat)) = ji15 := fun h_ => (i64_w _).symm.trans (hji15z h_)
              have H' := Aside0.mk H
              clear H
              have p159 : 0 ≤ (x21_2 : Int) := of_decide_eq_true (by first | (with_reducible assumption) | assumption)
              have q159 : x21_2 < (l0.length : Int) := of_decide_eq_true (by first | (with_reducible assumption) | assumption)
              obtain ⟨ad159, e159, hx159_0⟩ := Kd.at_int HR0.out x21_2 p159 q159
              cases e159
              replace hx159_0 := (HB.out.cell (World.block_lt_of_cell? w _ hx159_0)).trans hx159_0
              replace p159 := eq_true p159
              replace q159 := eq_true q159
              have p12 : 0 ≤ (x21_2 : Int) := of_decide_eq_true (by first | (with_reducible assumption) | assumption)
              have q12 : (x21_2 : Int) < ((x4_2.length : Int) : Int) := of_decide_eq_true (by first | (with_reducible assumption) | assumption)
              obtain ⟨go12, co12, eo12, gb12, gl12, cl12, HG12⟩ := Kd.R_form HO_4.out (by omega)
              (first | cases eo12 | (injection eo12 with ea_ en_ ec_; (first | subst ea_ | (injection ea_ with ea_; subst ea_)); subst ec_; clear en_))
              have GB12 := Aside0.mk gb12
              have GG12 := Aside0.mk HG12
              clear gb12 gl12 HG12
              obtain ⟨hx12_0, hf12_0⟩ := Kd.R_celln 0 HO_4.out (x21_2 : Int) p12 q12
              replace p12 := eq_true p12
              replace q12 := eq_true q12
              have HP16 := Kd.R_putg HO_4.out (x21_2 : Int) x6_2
              go_wp2_with (first | ((with_reducible refine gate_store (t := 3) (p := 32) rfl ?_); refine store_event (t := 3) (p := 32) (v := ?vo_w17) (w1 := (wr.setCell ⟨go12, (x21_2 : Int).toNat, none⟩ (.int .i64 x6_2))) ?hg ?ho ?hn ?hr ?_; (case ho => rfl); (case hg => rfl); (case hn => rfl); (case hr => first | (go_simp; done) | (go_simp; rfl)); intro w17 hw; have hg : wr.grownBy w17 (some go12) := (by rw [hw]; exact HP16.2); have hp_ : Kd.R (Kd.int .i64) 3 w17 w.heap.size (fun _ => True) (.slice (some ⟨go12, 0, none⟩) x4_2.length co12) y160 := (by rw [hw, Ny160.out]; exact HP16.1); clear HP16; have n0_ := Aside0.mk (hp_); have n1_ := Aside0.mk ((by rw [hw]; exact below_set (HB.out) GB12.out : Below w.heap.size w w17)); clear HO_4; clear HB; have HO_4 := n0_; have HB := n1_; clear n0_ n1_; clear hg hw hp_))
              go_roundg k2
              case measure => have := HK1.out; have := HK2.out; omega
              case rel => exact ⟨(y160), (wrap64 (x5_2 + (ji15))), (wrap64 (x6_2 + 1)), (wrap64 (x21_2 + 1)), (by first | rfl | (simp; done) | (simp only [← hji15] <;> (first | rfl | simp)) | (simp [*]; done)), (by first | rfl | (simp; done) | (simp [*]; done) | (simp [wrap64]; done)), (by first | rfl | (simp; done) | (simp [*]; done) | (simp [wrap64]; done)), H', ⟨by have := HK1.out; have := HK2.out; omega⟩, ⟨by (with_reducible repeat (first | apply Kd.R_alloc | apply Kd.R_drewN | apply Kd.R_drew)); exact HO_4.out⟩, ⟨by repeat (first | (with_reducible first | exact HB.out | apply below_alloc | apply pw_below_drewN | apply below_drew1) | exact HB.out)⟩⟩
             ·rw [if_neg c14] at H
              exact absurd H (by simp)
            ·rw [if_neg c11] at H
             exact absurd H (by simp)
           ·rw [if_neg c10] at H
            have c10b0 : ((rd l0 x21_2) == x7_1) = false := beq_eq_false_iff_ne.mpr c10
            have c10b1 : ((rd l0 x21_2) != x7_1) = true := bne_iff_ne.mpr c10
            have H' := Aside0.mk H
            clear H
            have p159 : 0 ≤ (x21_2 : Int) := of_decide_eq_true (by first | (with_reducible assumption) | assumption)
            have q159 : x21_2 < (l0.length : Int) := of_decide_eq_true (by first | (with_reducible assumption) | assumption)
            obtain ⟨ad159, e159, hx159_0⟩ := Kd.at_int HR0.out x21_2 p159 q159
            cases e159
            replace hx159_0 := (HB.out.cell (World.block_lt_of_cell? w _ hx159_0)).trans hx159_0
            replace p159 := eq_true p159
            replace q159 := eq_true q159
            go_wp2
            go_roundg k2
            case measure => have := HK1.out; have := HK2.out; omega
            case rel => exact ⟨(x4_2), (x5_2), (x6_2), (wrap64 (x21_2 + 1)), (by first | rfl | (simp; done) | (simp [*]; done) | (simp [wrap64]; done)), (by first | rfl | (simp; done) | (simp [*]; done) | (simp [wrap64]; done)), (by first | rfl | (simp; done) | (simp [*]; done) | (simp [wrap64]; done)), H', ⟨by have := HK1.out; have := HK2.out; omega⟩, ⟨by (with_reducible repeat (first | apply Kd.R_alloc | apply Kd.R_drewN | apply Kd.R_drew)); exact HO_4.out⟩, ⟨by repeat (first | (with_reducible first | exact HB.out | apply below_alloc | apply pw_below_drewN | apply below_drew1) | exact HB.out)⟩⟩
          ·rw [if_neg c9] at H
           exact absurd H (by simp)
         ·rw [if_neg c8] at H
          exact absurd H (by simp)
        ·rw [if_neg c7] at H
         have c7b0 : decide (x21_2 < (l0.length : Int)) = false := decide_eq_false c7
         clear c7
         have H' := Aside0.mk H
         clear H
         go_wp2
         go_roundg k2
         case measure => have := HK1.out; have := HK2.out; omega
         case rel => exact ⟨(x4_2), (x5_2), (x6_2), (wrap64 (x7_1 + 1)), (by first | rfl | (simp; done) | (simp [*]; done) | (simp [wrap64]; done)), (by first | rfl | (simp; done) | (simp [*]; done) | (simp [wrap64]; done)), (by first | rfl | (simp; done) | (simp [*]; done) | (simp [wrap64]; done)), H', ⟨by have := HK1.out; have := HK2.out; omega⟩, ⟨by (with_reducible repeat (first | apply Kd.R_alloc | apply Kd.R_drewN | apply Kd.R_drew)); exact HO_4.out⟩, ⟨by repeat (first | (with_reducible first | exact HB.out | apply below_alloc | apply pw_below_drewN | apply below_drew1) | exact HB.out)⟩⟩
     ·rw [if_neg c6] at H
      have c6b0 : decide (x7_1 ≤ 15) = false := decide_eq_false c6
      clear c6
      simp only [Option.some.injEq, Prod.mk.injEq] at H
      obtain ⟨rfl, rfl⟩ := H
      go_wp2
      go_ret2
      exact ⟨_, by first | rfl | (simp [errW_none, errW_some] <;> rfl) | (simp [*, errW_none, errW_some] <;> rfl), by (with_reducible repeat (first | apply Kd.R_alloc | apply Kd.R_drewN | apply Kd.R_drew)); exact HO_4.out, by repeat (first | (with_reducible first | exact HB.out | apply below_alloc | apply pw_below_drewN | apply below_drew1) | exact HB.out)⟩
  ·rw [if_neg c3] at H
   exact absurd H (by simp)
 ·rw [if_neg c2] at H
  exact absurd H (by simp)

end Go.Proofs.Ytfogfjmkngoegaa.PFnExactPackBest
