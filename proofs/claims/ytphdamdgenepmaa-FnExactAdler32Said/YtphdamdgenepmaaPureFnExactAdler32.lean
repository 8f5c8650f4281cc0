/- Adler32: the program's Adler32 answers as the reference's at all bytes, and writes into none; no condition. -/
import Derived.Test.YtphdamdgenepmaaPFnExactAdler32x1
import Derived.Test.YtphdamdgenepmaaPlain
import Derived.Test.YtphdamdgenepmaaBits
import Derived.Test.YtphdamdgenepmaaEvs
set_option linter.unusedVariables false
set_option linter.unusedSimpArgs false
namespace Go.Proofs.Ytphdamdgenepmaa.Pure
open Go.RowKit Go.Proofs.Ytphdamdgenepmaa.PFnExactAdler32 Go.Proofs.YtphdamdgenepmaaW.PrintWords Go.Proofs.YtphdamdgenepmaaW.PrintLast Go.Proofs.Ytphdamdgenepmaa.Plain

/-! laws_toByteS -/
-- plain: Evs
theorem laws_toByteS_ev (l : List Int) (hn : l.length ≤ 281474976710656) : Ev (fun k => laws_toByteS.f k l) l := by
  refine Ev.congr (f := fun k => laws_toByteS.l0 k l (List.replicate l.length 0) 0) (fun k => ?_) ?_
  · unfold laws_toByteS.f; rw [if_pos (by omega), if_pos (by omega)]; rfl
  · refine ev_up l.length (fun i k => laws_toByteS.l0 k l (l.take i ++ List.replicate (l.length - i) 0) i) l ?_ ?_
    · refine ev_done fun k => ?_
      rw [laws_toByteS.l0, if_neg (by omega)]; simp
    · intro i hi h
      refine Ev.step (fun k => ?_) h
      rw [laws_toByteS.l0, if_pos (by omega), if_pos (by omega), if_pos (by simp; omega), wrap_up hi (by omega), rd_nat, Int.toNat_natCast, take_set _ _ _ hi _ (by simp; omega), List.tail_replicate]
      congr 3

/-! laws_eqByteS -/
-- plain: Evs
theorem laws_eqByteS_same (l : List Int) (hn : l.length ≤ 281474976710656) : Ev (fun k => laws_eqByteS.f k l l) true := by
  refine Ev.congr (f := fun k => laws_eqByteS.l0 k l l 0) (fun k => ?_) ?_
  · unfold laws_eqByteS.f; rw [if_pos rfl]
  · refine ev_up l.length (fun i k => laws_eqByteS.l0 k l l i) true ?_ ?_
    · refine ev_done fun k => ?_
      rw [laws_eqByteS.l0, if_neg (by omega)]
    · intro i hi h
      refine Ev.step (fun k => ?_) h
      rw [laws_eqByteS.l0, if_pos (by omega), if_pos (by omega), if_pos (by omega), if_pos rfl, wrap_up hi (by omega)]
theorem laws_eqByteS_of (l l' : List Int) (hl : l = l') (hn : l.length ≤ 281474976710656) : Ev (fun k => laws_eqByteS.f k l l') true := by
  subst hl; exact laws_eqByteS_same l hn

-- plain: Evs Bits
theorem adler_same (l : List Int) (hw : ∀ x ∈ l, (Lit.int .u8 x).wf = true) (hl : l.length ≤ 9223372036854775807) : ∀ (d i : Nat) (a b : Int), i + d = l.length → 0 ≤ a → a < 65521 → 0 ≤ b → b < 65521 →
    ∃ r, Ev (fun k => spec_l3Adler.l0 k a b l l.length i) r ∧ Ev (fun k => impl_Adler32.l0 k a b l l.length i) r := by
  intro d
  induction d with
  | zero =>
    intro i a b hi ha0 ha1 hb0 hb1
    refine ⟨b * 65536 + a, ev_done fun k => ?_, ev_done fun k => ?_⟩
    · rw [spec_l3Adler.l0, if_neg (by omega), wrap_id (x := b * 65536) (by omega) (by omega), wrap_id (by omega) (by omega), Int.emod_eq_of_lt (by omega) (by omega)]
    · rw [impl_Adler32.l0, if_neg (by omega), u32_join16 _ _ (by omega) (by omega) (by omega) ha0 (by omega), Int.emod_eq_of_lt (by omega) (by omega)]
  | succ d ih =>
    intro i a b hi ha0 ha1 hb0 hb1
    have hr := bytes_rd hw (i : Int)
    obtain ⟨r, h1, h2⟩ := ih (i + 1) ((a + rd l i) % 65521) ((b + (a + rd l i) % 65521) % 65521) (by omega) (by omega) (by omega) (by omega) (by omega)
    refine ⟨r, Ev.step (fun k => ?_) h1, Ev.step (fun k => ?_) h2⟩
    · rw [spec_l3Adler.l0, if_pos (by omega), if_pos (by omega), if_pos (by omega), wrap_id (x := rd l i) (by omega) (by omega), wrap_id (x := a + rd l i) (by omega) (by omega), Int.tmod_eq_emod_of_nonneg (a := a + rd l i) (by omega),
        wrap_id (x := b + _) (by omega) (by omega), Int.tmod_eq_emod_of_nonneg (a := b + _) (by omega), wrap_up (by omega) hl]
    · have e1 : ((a + rd l i % 4294967296) % 4294967296) % 65521 = (a + rd l i) % 65521 := by omega
      rw [impl_Adler32.l0, if_pos (by omega), if_pos (by omega), if_pos (by omega), e1, Int.emod_eq_of_lt (a := b + _) (by omega) (by omega), wrap_up (by omega) hl]
theorem FnExactAdler32 : laws_FnExactAdler32.Pure := by
  intro l hm hb hw
  by_cases hlen : (l.length : Int) > 1048576
  · exact ⟨0, by unfold laws_FnExactAdler32.f; rw [if_pos hlen]⟩
  obtain ⟨r, h1, h2⟩ := adler_same l hw (by omega) l.length 0 1 0 (by omega) (by omega) (by omega) (by omega) (by omega)
  refine Ev.rounds ?_
  simp only [laws_FnExactAdler32.f, spec_Adler32.f, spec_l3Adler.f, impl_Adler32.f, Option.bind_some, Option.bind_assoc]
  refine ev_if_neg hlen ?_
  refine ev_bind (laws_toByteS_ev l (by omega)) ?_
  refine ev_bind h1 ?_
  refine ev_bind (laws_toByteS_ev l (by omega)) ?_
  refine ev_bind h2 ?_
  refine ev_if_pos rfl ?_
  refine ev_bind (laws_toByteS_ev l (by omega)) ?_
  refine ev_bind (laws_eqByteS_same l (by omega)) ?_
  exact ev_if_pos rfl (Ev.now true)

end Go.Proofs.Ytphdamdgenepmaa.Pure
