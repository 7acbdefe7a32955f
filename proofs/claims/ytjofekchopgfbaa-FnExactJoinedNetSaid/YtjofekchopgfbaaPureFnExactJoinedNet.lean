/- JoinedNet of the program returns what the reference's JoinedNet returns, for every two nets; it is new each time, shares nothing with what came in, and leaves that as it was. Conditions: none beyond those of the statement. -/
import Derived.Test.YtjofekchopgfbaaCFnExactJoinedNet
namespace Go.Proofs.Ytjofekchopgfbaa.Pure
open Go Go.RowKit Go.Proofs.Ytjofekchopgfbaa.PFnExactJoinedNet Go.Proofs.YtjofekchopgfbaaW.PrintWords Go.Proofs.YtjofekchopgfbaaW.PrintLast Go.Proofs.Ytjofekchopgfbaa.Pl Go.Proofs.Ytjofekchopgfbaa.CFnExactJoinedNet

theorem FnExactJoinedNet : laws_FnExactJoinedNet.Pure := by
  intro st ord _ hl _ _ hl2 _
  refine Ev.rounds (?_ : Ev (fun k => laws_FnExactJoinedNet.f k st ord) true)
  unfold laws_FnExactJoinedNet.f
  by_cases hb : (st.length : Int) > 1048576
  · exact Ev.pos hb (Ev.one rfl)
  by_cases hb2 : (ord.length : Int) > 1048576
  · exact Ev.neg hb (Ev.pos hb2 (Ev.one rfl))
  have ht := toIntS_ev st (by omega)
  have ht2 := toIntS_ev ord (by omega)
  have key : ∃ (r : List Int) (q : Bool), r.length ≤ 6 ∧ Ev (fun k => spec_JoinedNet.f k st ord) (r, q) ∧ Ev (fun k => impl_JoinedNet.f k st ord) (r, q) := by
    by_cases h : NetP st ∧ NetP ord ∧ st.length + ord.length ≤ 6
    · exact ⟨jo st ord, true, by rw [jo_len]; exact h.2.2, sJoin_yes h.1 h.2.1 h.2.2, iJoin_yes h.1 h.2.1 h.2.2⟩
    · exact ⟨[], false, by simp, sJoin_no h, iJoin_no h⟩
  obtain ⟨r, q, h6, hs, hi⟩ := key
  have hm := markIntS_ev r (by omega) 1 (by omega) (by omega)
  have hh := heldIntS_ev r.length (by omega) 1 (by omega) (by omega)
  have hm2 := markIntS_ev st (by omega) 1 (by omega) (by omega)
  have hm3 := markIntS_ev ord (by omega) (1 + (st.length : Int)) (by omega) (by omega)
  have hj2 : ∀ p : Bool, p = false → Ev (fun k => laws_FnExactJoinedNet.j2 k (mkL (fun j => 1 + (j : Int)) r.length) (1 + (r.length : Int)) p) true := by
    intro p hp
    refine Ev.step (fun k => laws_FnExactJoinedNet.j2.eq_2 ..) ?_
    exact Ev.neg (by rw [hp]; decide) (Ev.bind hh (Ev.neg (by omega) (Ev.pos rfl (Ev.one rfl))))
  have hj1 : ∀ p : Bool, p = false → Ev (fun k => laws_FnExactJoinedNet.j1 k st ord r q r p) true := by
    intro p hp
    refine Ev.step (fun k => laws_FnExactJoinedNet.j1.eq_2 ..) ?_
    exact Ev.neg (by rw [hp]; decide) (Ev.bind hm (Ev.bind hh (Ev.neg (by omega) (Ev.pos rfl (Ev.bind ht (Ev.bind ht2 (Ev.bind hi (Ev.bind (eqIntS_ev r r (by omega)) (Ev.pos (by simp) (hj2 _ (by simp)))))))))))
  have hj0 : ∀ p : Bool, p = false → Ev (fun k => laws_FnExactJoinedNet.j0 k st ord r q st ord r q p) true := by
    intro p hp
    refine Ev.step (fun k => laws_FnExactJoinedNet.j0.eq_2 ..) ?_
    exact Ev.neg (by rw [hp]; decide) (Ev.bind ht (Ev.bind (eqIntS_ev st st (by omega)) (Ev.pos (by simp) (Ev.bind ht2 (Ev.bind (eqIntS_ev ord ord (by omega)) (Ev.pos (by simp) (Ev.bind hm2 (Ev.bind hm3 (Ev.neg (by simp; omega) (Ev.bind (eqIntS_ev r r (by omega)) (Ev.pos (by simp) (hj1 _ (by simp)))))))))))))
  exact Ev.neg hb (Ev.neg hb2 (Ev.bind ht (Ev.bind ht2 (Ev.bind hs (Ev.bind ht (Ev.bind ht2 (Ev.bind hi (Ev.bind (eqIntS_ev r r (by omega)) (Ev.pos (by simp) (hj0 _ (by simp)))))))))))
end Go.Proofs.Ytjofekchopgfbaa.Pure
