/- Crc32: the program's Crc32 answers as the reference's at all bytes, and writes into none; no condition. -/
import Derived.Test.YtphdamdgenepmaaPFnExactCrc32x1
import Derived.Test.YtphdamdgenepmaaPlain
import Derived.Test.YtphdamdgenepmaaBits
import Derived.Test.YtphdamdgenepmaaEvs
set_option linter.unusedVariables false
set_option linter.unusedSimpArgs false
namespace Go.Proofs.Ytphdamdgenepmaa.Pure
open Go.RowKit Go.Proofs.Ytphdamdgenepmaa.PFnExactCrc32 Go.Proofs.YtphdamdgenepmaaW.PrintWords Go.Proofs.YtphdamdgenepmaaW.PrintLast Go.Proofs.YtphdamdgenepmaaW.PrintMore Go.Proofs.Ytphdamdgenepmaa.Plain

/-! laws_toByteS -/
-- plain: Evs
theorem laws_toByteS_ev (l : List Int) (hn : l.length ≤ 281474976710656) : Ev (fun k => laws_toByteS.f k l) l := by
  refine Ev.congr (f := fun k => laws_toByteS.l0 k l (List.replicate l.length 0) 0) (fun k => ?_) ?_
  · unfold laws_toByteS.f; rw [if_pos (by omega), if_pos (by omega)]; rfl
  · refine ev_up l.length (fun i k => laws_toByteS.l0 k l (l.take i ++ List.replicate (l.length - i) 0) i) l ?_ ?_
    · refine ev_done fun k => ?_
      rw [laws_toByteS.l0, if_neg (by omega)]; simp
    · intro i hi h
      refine Ev.step (fun k => ?_) h
      rw [laws_toByteS.l0, if_pos (by omega), if_pos (by omega), if_pos (by simp; omega), wrap_up hi (by omega), rd_nat, Int.toNat_natCast, take_set _ _ _ hi _ (by simp; omega), List.tail_replicate]
      congr 3

/-! laws_eqByteS -/
-- plain: Evs
theorem laws_eqByteS_same (l : List Int) (hn : l.length ≤ 281474976710656) : Ev (fun k => laws_eqByteS.f k l l) true := by
  refine Ev.congr (f := fun k => laws_eqByteS.l0 k l l 0) (fun k => ?_) ?_
  · unfold laws_eqByteS.f; rw [if_pos rfl]
  · refine ev_up l.length (fun i k => laws_eqByteS.l0 k l l i) true ?_ ?_
    · refine ev_done fun k => ?_
      rw [laws_eqByteS.l0, if_neg (by omega)]
    · intro i hi h
      refine Ev.step (fun k => ?_) h
      rw [laws_eqByteS.l0, if_pos (by omega), if_pos (by omega), if_pos (by omega), if_pos rfl, wrap_up hi (by omega)]
theorem laws_eqByteS_of (l l' : List Int) (hl : l = l') (hn : l.length ≤ 281474976710656) : Ev (fun k => laws_eqByteS.f k l l') true := by
  subst hl; exact laws_eqByteS_same l hn

-- plain: Evs Bits
theorem crc_alike : ∀ k, (∀ x l n i, spec_l3Crc.l0 k x l n i = impl_Crc32.l0 k x l n i) ∧ (∀ x j l n i, spec_l3Crc.l1 k x j l n i = impl_Crc32.l1 k x l n i j)
  | 0 => ⟨fun _ _ _ _ => by rw [spec_l3Crc.l0, impl_Crc32.l0], fun _ _ _ _ _ => by rw [spec_l3Crc.l1, impl_Crc32.l1]⟩
  | k + 1 => by
    obtain ⟨h0, h1⟩ := crc_alike k
    refine ⟨fun x l n i => ?_, fun x j l n i => ?_⟩
    · rw [spec_l3Crc.l0, impl_Crc32.l0, h1, bits_xor_comm .u32 4294967295]
    · rw [spec_l3Crc.l1, impl_Crc32.l1, h1, h1, h0]
theorem crc_bits (l : List Int) (n i : Int) (hnext : ∀ x, ∃ r, Ev (fun k => spec_l3Crc.l0 k x l n (wrap64 (i + 1))) r) : ∀ (d j : Nat) (x : Int), j + d = 8 → ∃ r, Ev (fun k => spec_l3Crc.l1 k x j l n i) r := by
  intro d
  induction d with
  | zero =>
    intro j x hj
    obtain ⟨r, hr⟩ := hnext x
    exact ⟨r, Ev.step (fun k => by rw [spec_l3Crc.l1, if_neg (by omega)]) hr⟩
  | succ d ih =>
    intro j x hj
    by_cases hb : Go.bits .and .u32 x 1 = 1
    · obtain ⟨r, hr⟩ := ih (j + 1) (Go.bits .xor .u32 (x / 2) 3988292384) (by omega)
      exact ⟨r, Ev.step (fun k => by rw [spec_l3Crc.l1, if_pos (by omega), if_pos hb, wrap_up (n := 8) (by omega) (by omega)]) hr⟩
    · obtain ⟨r, hr⟩ := ih (j + 1) (x / 2) (by omega)
      exact ⟨r, Ev.step (fun k => by rw [spec_l3Crc.l1, if_pos (by omega), if_neg hb, wrap_up (n := 8) (by omega) (by omega)]) hr⟩
theorem crc_ends (l : List Int) (hl : l.length ≤ 9223372036854775807) : ∀ (d i : Nat) (x : Int), i + d = l.length → ∃ r, Ev (fun k => spec_l3Crc.l0 k x l l.length i) r := by
  intro d
  induction d with
  | zero =>
    intro i x hi
    exact ⟨_, ev_done fun k => by rw [spec_l3Crc.l0, if_neg (by omega)]⟩
  | succ d ih =>
    intro i x hi
    obtain ⟨r, hr⟩ := crc_bits l l.length i (fun x => by rw [wrap_up (n := l.length) (by omega) hl]; exact ih (i + 1) x (by omega)) 8 0 (Go.bits .xor .u32 x ((rd l i) % 4294967296)) (by omega)
    exact ⟨r, Ev.step (fun k => by rw [spec_l3Crc.l0, if_pos (by omega), if_pos (by omega), if_pos (by omega)]; rfl) hr⟩
theorem FnExactCrc32 : laws_FnExactCrc32.Pure := by
  intro l hm hb hw
  by_cases hlen : (l.length : Int) > 1048576
  · exact ⟨0, by unfold laws_FnExactCrc32.f; rw [if_pos hlen]⟩
  obtain ⟨r, h1⟩ := crc_ends l (by omega) l.length 0 4294967295 (by omega)
  have h2 : Ev (fun k => impl_Crc32.l0 k 4294967295 l l.length 0) r := Ev.congr (fun k => ((crc_alike k).1 _ _ _ _).symm) h1
  refine Ev.rounds ?_
  simp only [laws_FnExactCrc32.f, spec_Crc32.f, spec_l3Crc.f, impl_Crc32.f, Option.bind_some, Option.bind_assoc]
  refine ev_if_neg hlen ?_
  refine ev_bind (laws_toByteS_ev l (by omega)) ?_
  refine ev_bind h1 ?_
  refine ev_bind (laws_toByteS_ev l (by omega)) ?_
  refine ev_bind h2 ?_
  refine ev_if_pos rfl ?_
  refine ev_bind (laws_toByteS_ev l (by omega)) ?_
  refine ev_bind (laws_eqByteS_same l (by omega)) ?_
  exact ev_if_pos rfl (Ev.now true)

end Go.Proofs.Ytphdamdgenepmaa.Pure
