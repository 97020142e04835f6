/- FnSharedSums: what its tests rest on, plainly; the laws' comparison of rows of rows. -/
import Derived.Test.YthpcmbdkboajcaaAe
import Derived.Test.YthpcmbdkboajcaaOpP
import Derived.Test.YthpcmbdkboajcaaFltD
import Derived.Test.YthpcmbdkboajcaaSame
import Derived.Deep.QuietTactic
namespace Go.Proofs.Ythpcmbdkboajcaa
open Go.RowKit
/-- What shared evaluation keeps. -/
structure SsF (P i0 i1 : Int) (gn : Nat) (G O : List Int) (key : Int) (A B : List Int) : Prop where
  ar : arB P i0 i1 gn G O = true
  hp : 2 ≤ P ∧ P ≤ 251
  hi : 0 ≤ i0 ∧ i0 ≤ 8
  g : gn ≤ 100
  o : O.length ≤ 20
  lens : A.length ≤ 8 ∧ B.length ≤ 8
  out : rsL P i0 i1 gn G O key A B = pickL (avR P G (A ++ B) gn) O O.length
  l1 : (wsL1 P i0 i1 gn G O key A B).length = A.length + B.length + gn
  l2 : (wsL2 P i0 i1 gn G O key A B).length = A.length + B.length + gn
  r1 : ∀ i, 0 ≤ (wsL1 P i0 i1 gn G O key A B).getD i 0 ∧ (wsL1 P i0 i1 gn G O key A B).getD i 0 ≤ 250
  r2 : ∀ i, 0 ≤ (wsL2 P i0 i1 gn G O key A B).getD i 0 ∧ (wsL2 P i0 i1 gn G O key A B).getD i 0 ≤ 250
  sum : ∀ i, i < A.length + B.length + gn → ((wsL1 P i0 i1 gn G O key A B).getD i 0 + (wsL2 P i0 i1 gn G O key A B).getD i 0) % P = (avR P G (A ++ B) gn).getD i 0
  op : ((wsOP P i0 i1 gn G O key A B).length : Int) = cnt G 1 gn
  tr : trfL P i0 i1 gn G O = [i0 + (2 * cnt G 1 gn + O.length), i1 + (2 * cnt G 1 gn + O.length)]
theorem rng_at {P : Int} (hp : 1 ≤ P) (hp2 : P ≤ 251) {l : List Int} (h : ∀ x ∈ l, 0 ≤ x ∧ x ≤ P - 1) (i : Nat) : 0 ≤ l.getD i 0 ∧ l.getD i 0 ≤ 250 := by
  by_cases hi : i < l.length
  · have := h _ (getD_mem l i hi); omega
  · have : l.getD i 0 = 0 := by simp [List.getD, Nat.not_lt.1 hi]
    omega
theorem ss_law {P i0 i1 : Int} {gn : Nat} {G O : List Int} {key : Int} {A B : List Int} (h : asB P i0 i1 gn G O key A B = true) : SsF P i0 i1 gn G O key A B := by
  obtain ⟨har, _, ha, hb, e0, e1, hpr⟩ := asB_true h
  obtain ⟨r0, _, hgn, hon, _, hgat, hO⟩ := arB_all har
  obtain ⟨p1, p2⟩ := isPr_range hpr
  have ok := wsQ_ok (-1) 0 h
  have hV : ∀ x ∈ A ++ B, 0 ≤ x ∧ x ≤ P - 1 := fun x hx => by
    rcases List.mem_append.1 hx with q | q
    · exact ha x q
    · exact hb x q
  have hlen : (A ++ B).length = A.length + B.length := List.length_append
  have hsh := sh_all (key := key) (own := i0 + i1) (G := G) (gn := gn) hV (by rw [hlen]; omega) hgat gn (Nat.le_refl _)
  rw [hlen] at hsh
  have eq1 : wsL1 P i0 i1 gn G O key A B = (wsQ P key (-1) 0 gn G A B).1 := by unfold wsL1; rw [if_pos h]
  have eq2 : wsL2 P i0 i1 gn G O key A B = (wsQ P key (-1) 0 gn G A B).2.1 := by unfold wsL2; rw [if_pos h]
  have eq3 : wsOP P i0 i1 gn G O key A B = (wsQ P key (-1) 0 gn G A B).2.2 := by unfold wsOP; rw [if_pos h]
  have eq4 : rsL P i0 i1 gn G O key A B = outL P (wsQ P key (-1) 0 gn G A B).1 (wsQ P key (-1) 0 gn G A B).2.1 O O.length := by unfold rsL; rw [if_pos h]
  refine ⟨har, ⟨p1, p2⟩, r0, hgn, hon, asB_len h, ?_, ?_, ?_, ?_, ?_, ?_, ?_, ?_⟩
  · rw [eq4]
    exact outL_vals hsh (fun x hx => by have := hO x hx; rw [avR_len, hlen]; omega)
  · rw [eq1, ok.lf]
  · rw [eq2, ok.ls]
  · rw [eq1]; exact rng_at (by omega) p2 ok.rf
  · rw [eq2]; exact rng_at (by omega) p2 ok.rs
  · rw [eq1, eq2]
    intro i hi
    exact hsh.2.2 i (by rw [avR_len, hlen]; exact hi)
  · rw [eq3]; exact wsR_opened _ _ _ _ _ _ _ _
  · unfold trfL; rw [if_pos har]
/-- A fault that is 0 changes nothing. -/
theorem rf_law {P i0 i1 : Int} {gn : Nat} {G O : List Int} {key : Int} {A B : List Int} {k change : Int} (h : rfB P i0 i1 gn G O key A B k change = true) : asB P i0 i1 gn G O key A B = true ∧ rfB P i0 i1 gn G O key A B k 0 = true ∧ rfL P i0 i1 gn G O key A B k 0 = rsL P i0 i1 gn G O key A B := by
  have h1 := rfB_true h
  have h2 : rfB P i0 i1 gn G O key A B k 0 = true := by
    unfold rfB at h ⊢
    simp only [Bool.and_eq_true] at h ⊢
    obtain ⟨a1, a2, a3, a4⟩ := h
    refine ⟨a1, a2, a3, ?_⟩
    obtain ⟨hp, p1, _⟩ := elB_true a4
    unfold elB
    rw [hp]
    simp
    omega
  refine ⟨h1, h2, ?_⟩
  unfold rfL rsL
  rw [if_pos h2, if_pos h1]
  have e : wsQ P key k 0 gn G A B = wsQ P key (-1) 0 gn G A B := wsR_nofault _ _ _ _ _ _ _
  rw [e]
set_option maxHeartbeats 4000000 in
theorem sameLists_q (a : Option Addr) (n c : Nat) (a' : Option Addr) (n' c' : Nat) (rs rs' : List RowD) (w : World) (h : IntSS w a n c rs) (h' : IntSS w a' n' c' rs') (hd : datas' rs = datas' rs') :
    Calls Try.prog 31 #[.slice a n c, .slice a' n' c'] w fun e w' => e = .returned (.bool true) ∧ ∃ m, w' = w.drewN m := by
  obtain rfl : n = n' := by rw [← h.len, ← h'.len, ← datas_len rs, ← datas_len rs', hd]
  have hn := h.le
  have HD := Lib.hid hd
  have HH := Lib.hid h
  have HH' := Lib.hid h'
  have HL := Lib.hid h.len
  have HL' := Lib.hid h'.len
  clear hd h h'
  go_enter Try.func31, Try.ntmps31
  go_wp2
  go_loopw [13] (fun v wr => ∃ k : Nat, k ≤ n ∧ v = .int .i64 k ∧ ∃ m, wr = w.drewN m) (fun v _ => n - (intOf v).toNat)
  case atStart => exact ⟨0, Nat.zero_le _, rfl, 0, rfl⟩
  case round =>
    obtain ⟨k, hk, rfl, m, hm⟩ := hrel
    have hbel : Below w.heap.size w wr := hm ▸ below_of_drewN m
    by_cases hlt : k < n
    · obtain ⟨g, o, rfl, hcell, hin⟩ := (HH.out.below hbel).at k hlt
      obtain ⟨g', o', rfl, hcell', hin'⟩ := (HH'.out.below hbel).at k hlt
      have hlt' : (k : Int) < (n : Int) := by omega
      have e1 : (rowAt rs k).2.2 = (rowAt rs' k).2.2 := datas_at HD.out k (by rw [HL.out]; exact hlt)
      generalize rowAt rs k = r at *
      generalize rowAt rs' k = r' at *
      obtain ⟨ra, rc, rl⟩ := r
      obtain ⟨ra', rc', rl'⟩ := r'
      dsimp only at *
      subst e1
      have CC := Lib.hid (fun (W : World) (m : Nat) (hw : W = wr.drewN m) => sameInts_same ra rl.length rc ra' rl.length rc' rl W (hw ▸ hin.below (below_of_drewN m)) (hw ▸ hin'.below (below_of_drewN m)))
      have HM := Lib.hid hm
      clear hm
      go_wp2
      go_quiet ((go_at_call 9; exact Calls.quiet_of (CC.out _ _ rfl)))
      have hb2 : Hid (∃ m, wr.drewN nq = w.drewN m) := Lib.hid ⟨m + nq, by rw [HM.out, World.drewN_drewN]⟩
      generalize wr.drewN nq = wq at *
      go_wp2
      go_roundw
      case rel => exact ⟨k + 1, by omega, by go_num, hb2.out⟩
      case measure => simp [intOf]; omega
    · go_wp2
      go_ret
      exact ⟨rfl, m, rfl⟩
end Go.Proofs.Ythpcmbdkboajcaa
