/- Lemmas and walks that the claim's proof rests on, part 10. -/
import Derived.Deep.DeepCutAuto
import Derived.Test.YtchmakepglaijaaGreatK4
import Derived.Test.YtchmakepglaijaaGreatK7
import Derived.Test.YtchmakepglaijaaGreatK8
import Derived.Test.YtchmakepglaijaaGreatK9
namespace Go.Proofs.YtchmakepglaijaaGreat
open Go.RowKit
theorem gt_step {B : Int} {V G : List Int} (g : Gd B G) (hV : (V.length : Int) = B) (kd a b : Int) : Ex B V G (gt G kd a b) ∧ Wr B (gt G kd a b) (gW B G) ∧ vl (gt G kd a b) V (gW B G) = evS kd (vl G V a) (vl G V b) :=
  ⟨Ex.gt g hV kd a b, Wr.new g.1 kd a b, vl_new g hV kd a b⟩
theorem ad_bit1 {u v : Int} (hu : u = 0 ∨ u = 1) (hv : v = 0 ∨ v = 1) : evS 0 u v + 2 * evS 1 u v = u + v := by
  rcases hu with rfl | rfl <;> rcases hv with rfl | rfl <;> decide
theorem ad_bit {u v c : Int} (hu : u = 0 ∨ u = 1) (hv : v = 0 ∨ v = 1) (hc : c = 0 ∨ c = 1) : evS 0 (evS 0 u c) v + 2 * evS 0 (evS 1 (evS 0 u c) (evS 0 v c)) c = u + v + c := by
  rcases hu with rfl | rfl <;> rcases hv with rfl | rfl <;> rcases hc with rfl | rfl <;> decide
theorem su_bit1 {u v : Int} (z : Int) (hu : u = 0 ∨ u = 1) (hv : v = 0 ∨ v = 1) : evS 0 u v - 2 * evS 1 (evS 2 u z) v = u - v := by
  rw [ev_not]
  rcases hu with rfl | rfl <;> rcases hv with rfl | rfl <;> decide
theorem su_bit {u v c : Int} (z : Int) (hu : u = 0 ∨ u = 1) (hv : v = 0 ∨ v = 1) (hc : c = 0 ∨ c = 1) : evS 0 (evS 0 u c) v - 2 * evS 0 (evS 1 (evS 2 (evS 0 u c) z) (evS 0 v c)) c = u - v - c := by
  rw [ev_not]
  rcases hu with rfl | rfl <;> rcases hv with rfl | rfl <;> rcases hc with rfl | rfl <;> decide
theorem adS_val {B u v : Int} {V : List Int} {f : Bool} {q : List Int × List Int × Int} (g : Gd B q.1) (hV : (V.length : Int) = B) (hb : Bt V) (wx : Wr B q.1 u) (wy : Wr B q.1 v) (wc : f = false → Wr B q.1 q.2.2) :
    Ex B V q.1 (adS B u v f q).1 ∧ ∃ o, (adS B u v f q).2.1 = q.2.1 ++ [o] ∧ vl (adS B u v f q).1 V o + 2 * vl (adS B u v f q).1 V (adS B u v f q).2.2 = vl q.1 V u + vl q.1 V v + if f = true then 0 else vl q.1 V q.2.2 := by
  obtain ⟨Q, l, c⟩ := q
  dsimp only at *
  cases f
  · have wc := wc rfl
    obtain ⟨x1, n1, v1⟩ := gt_step g hV 0 u c
    have g1 := g.xor wx wc
    obtain ⟨x2, n2, v2⟩ := gt_step g1 hV 0 v c
    have g2 := g1.xor (x1.1.wr wy) (x1.1.wr wc)
    obtain ⟨x3, n3, v3⟩ := gt_step g2 hV 0 (gW B Q) v
    have g3 := g2.xor (x2.1.wr n1) ((x1.trans x2).1.wr wy)
    obtain ⟨x4, n4, v4⟩ := gt_step g3 hV 1 (gW B Q) (gW B (gt Q 0 u c))
    have g4 := g3.and ((x2.trans x3).1.wr n1) (x3.1.wr n2)
    obtain ⟨x5, n5, v5⟩ := gt_step g4 hV 0 (gW B (gt (gt (gt Q 0 u c) 0 v c) 0 (gW B Q) v)) c
    rw [x1.2 _ wy, x1.2 _ wc] at v2
    rw [x2.2 _ n1, v1, (x1.trans x2).2 _ wy] at v3
    rw [(x2.trans x3).2 _ n1, v1, x3.2 _ n2, v2] at v4
    rw [v4, (x1.trans (x2.trans (x3.trans x4))).2 _ wc] at v5
    refine ⟨x1.trans (x2.trans (x3.trans (x4.trans x5))), gW B (gt (gt Q 0 u c) 0 v c), rfl, ?_⟩
    show vl _ V (gW B (gt (gt Q 0 u c) 0 v c)) + 2 * vl _ V (gW B (gt (gt (gt (gt Q 0 u c) 0 v c) 0 (gW B Q) v) 1 (gW B Q) (gW B (gt Q 0 u c)))) = _
    have e3 := (x4.trans x5).2 _ n3
    rw [v3] at e3
    unfold adS
    simp only [Bool.false_eq_true, if_false]
    rw [e3, v5]
    exact ad_bit (vl_bit hb _ _) (vl_bit hb _ _) (vl_bit hb _ _)
  · obtain ⟨x1, n1, v1⟩ := gt_step g hV 0 u v
    have g1 := g.xor wx wy
    obtain ⟨x2, n2, v2⟩ := gt_step g1 hV 1 u v
    rw [x1.2 _ wx, x1.2 _ wy] at v2
    refine ⟨x1.trans x2, gW B Q, rfl, ?_⟩
    have e1 := x2.2 _ n1
    rw [v1] at e1
    unfold adS
    simp only [if_true]
    rw [e1, v2, Int.add_zero]
    exact ad_bit1 (vl_bit hb _ _) (vl_bit hb _ _)
theorem suS_val {B u v : Int} {V : List Int} {f : Bool} {q : List Int × List Int × Int} (g : Gd B q.1) (hV : (V.length : Int) = B) (hb : Bt V) (wx : Wr B q.1 u) (wy : Wr B q.1 v) (wc : f = false → Wr B q.1 q.2.2) :
    Ex B V q.1 (suS B u v f q).1 ∧ ∃ o, (suS B u v f q).2.1 = q.2.1 ++ [o] ∧ vl (suS B u v f q).1 V o - 2 * vl (suS B u v f q).1 V (suS B u v f q).2.2 = vl q.1 V u - vl q.1 V v - if f = true then 0 else vl q.1 V q.2.2 := by
  obtain ⟨Q, l, c⟩ := q
  dsimp only at *
  cases f
  · have wc := wc rfl
    obtain ⟨x1, n1, v1⟩ := gt_step g hV 0 u c
    have g1 := g.xor wx wc
    obtain ⟨x2, n2, v2⟩ := gt_step g1 hV 0 v c
    have g2 := g1.xor (x1.1.wr wy) (x1.1.wr wc)
    obtain ⟨x3, n3, v3⟩ := gt_step g2 hV 0 (gW B Q) v
    have g3 := g2.xor (x2.1.wr n1) ((x1.trans x2).1.wr wy)
    obtain ⟨x4, n4, v4⟩ := gt_step g3 hV 2 (gW B Q) 0
    have g4 := g3.not ((x2.trans x3).1.wr n1)
    obtain ⟨x5, n5, v5⟩ := gt_step g4 hV 1 (gW B (gt (gt (gt Q 0 u c) 0 v c) 0 (gW B Q) v)) (gW B (gt Q 0 u c))
    have g5 := g4.and n4 ((x3.trans x4).1.wr n2)
    obtain ⟨x6, n6, v6⟩ := gt_step g5 hV 0 (gW B (gt (gt (gt (gt Q 0 u c) 0 v c) 0 (gW B Q) v) 2 (gW B Q) 0)) c
    rw [x1.2 _ wy, x1.2 _ wc] at v2
    rw [x2.2 _ n1, v1, (x1.trans x2).2 _ wy] at v3
    rw [(x2.trans x3).2 _ n1, v1] at v4
    rw [v4, (x3.trans x4).2 _ n2, v2] at v5
    rw [v5, (x1.trans (x2.trans (x3.trans (x4.trans x5)))).2 _ wc] at v6
    refine ⟨x1.trans (x2.trans (x3.trans (x4.trans (x5.trans x6)))), gW B (gt (gt Q 0 u c) 0 v c), rfl, ?_⟩
    have e3 := (x4.trans (x5.trans x6)).2 _ n3
    rw [v3] at e3
    unfold suS
    simp only [Bool.false_eq_true, if_false]
    rw [e3, v6]
    exact su_bit _ (vl_bit hb _ _) (vl_bit hb _ _) (vl_bit hb _ _)
  · obtain ⟨x1, n1, v1⟩ := gt_step g hV 0 u v
    have g1 := g.xor wx wy
    obtain ⟨x2, n2, v2⟩ := gt_step g1 hV 2 u 0
    have g2 := g1.not (x1.1.wr wx)
    obtain ⟨x3, n3, v3⟩ := gt_step g2 hV 1 (gW B (gt Q 0 u v)) v
    rw [x1.2 _ wx] at v2
    rw [v2, (x1.trans x2).2 _ wy] at v3
    refine ⟨x1.trans (x2.trans x3), gW B Q, rfl, ?_⟩
    have e1 := (x2.trans x3).2 _ n1
    rw [v1] at e1
    unfold suS
    simp only [if_true]
    rw [e1, v3, Int.sub_zero]
    exact su_bit1 _ (vl_bit hb _ _) (vl_bit hb _ _)
def nv (G V r : List Int) : Nat → Int
  | 0 => 0
  | k + 1 => nv G V r k + vl G V (r.getD k 0) * 2 ^ k
theorem nv_ex {B : Int} {V G G' r : List Int} (e : Ex B V G G') (hr : Ws B G r) : ∀ n, n ≤ r.length → nv G' V r n = nv G V r n
  | 0, _ => rfl
  | k + 1, h => by rw [nv, nv, nv_ex e hr k (by omega), e.2 _ (hr.at k (by omega))]
theorem nv_app (G V r s : List Int) : ∀ n, n ≤ r.length → nv G V (r ++ s) n = nv G V r n
  | 0, _ => rfl
  | k + 1, h => by rw [nv, nv, nv_app G V r s k (by omega), gapp _ _ _ (by omega)]
theorem nv_rng {G V : List Int} (hb : Bt V) (r : List Int) : ∀ n, 0 ≤ nv G V r n ∧ nv G V r n < 2 ^ n
  | 0 => by simp [nv]
  | k + 1 => by
    have h := nv_rng (G := G) hb r k
    rw [nv, Int.pow_succ]
    rcases vl_bit hb G (r.getD k 0) with e | e <;> rw [e] <;> omega
theorem adG_val {B : Int} {V x y G : List Int} (h : Gd B G) (hV : (V.length : Int) = B) (hb : Bt V) (hx : Ws B G x) (hy : Ws B G y) (n : Nat) (h1 : n ≤ x.length) (h2 : n ≤ y.length) :
    Ex B V G (adG B x y G n).1 ∧ nv (adG B x y G n).1 V (adG B x y G n).2.1 n + (if n = 0 then 0 else vl (adG B x y G n).1 V (adG B x y G n).2.2) * 2 ^ n = nv G V x n + nv G V y n := by
  induction n with
  | zero => exact ⟨Ex.refl _ _ _, rfl⟩
  | succ n ih =>
    obtain ⟨e, f⟩ := ih (by omega) (by omega)
    obtain ⟨g, m, r, c⟩ := adG_good h hx hy n (by omega) (by omega)
    have hl := (adG_len B x y G n).2
    rw [adG_succ]
    have wx := hx.at n (by omega)
    have wy := hy.at n (by omega)
    obtain ⟨e2, o, ho, hv⟩ := adS_val (f := n == 0) g hV hb (m.wr wx) (m.wr wy) (fun e => c (by cases n with | zero => cases e | succ n => omega))
    rw [e.2 _ wx, e.2 _ wy] at hv
    refine ⟨e.trans e2, ?_⟩
    rw [if_neg (by omega), nv, nv, nv, ho, nv_app _ _ _ _ _ (by omega), gsnE _ _ _ hl.symm, nv_ex e2 r n (by omega), Int.pow_succ]
    generalize nv (adG B x y G n).1 V (adG B x y G n).2.1 n = N at *
    generalize vl (adS B (x.getD n 0) (y.getD n 0) (n == 0) (adG B x y G n)).1 V o = vo at *
    generalize vl (adS B (x.getD n 0) (y.getD n 0) (n == 0) (adG B x y G n)).1 V (adS B (x.getD n 0) (y.getD n 0) (n == 0) (adG B x y G n)).2.2 = vc at *
    generalize vl (adG B x y G n).1 V (adG B x y G n).2.2 = c0 at *
    generalize vl G V (x.getD n 0) = xv at *
    generalize vl G V (y.getD n 0) = yv at *
    by_cases h0 : n = 0
    · subst h0
      simp only [if_true, beq_self_eq_true] at f hv
      simp only [Int.pow_zero] at f ⊢
      omega
    · rw [if_neg h0] at f
      rw [if_neg (by simpa using h0)] at hv
      generalize (2 : Int) ^ n = T at *
      grind
theorem suG_val {B : Int} {V x y G : List Int} (h : Gd B G) (hV : (V.length : Int) = B) (hb : Bt V) (hx : Ws B G x) (hy : Ws B G y) (n : Nat) (h1 : n ≤ x.length) (h2 : n ≤ y.length) :
    Ex B V G (suG B x y G n).1 ∧ nv (suG B x y G n).1 V (suG B x y G n).2.1 n - (if n = 0 then 0 else vl (suG B x y G n).1 V (suG B x y G n).2.2) * 2 ^ n = nv G V x n - nv G V y n := by
  induction n with
  | zero => exact ⟨Ex.refl _ _ _, rfl⟩
  | succ n ih =>
    obtain ⟨e, f⟩ := ih (by omega) (by omega)
    obtain ⟨g, m, r, c⟩ := suG_good h hx hy n (by omega) (by omega)
    have hl := (suG_len B x y G n).2
    rw [suG_succ]
    have wx := hx.at n (by omega)
    have wy := hy.at n (by omega)
    obtain ⟨e2, o, ho, hv⟩ := suS_val (f := n == 0) g hV hb (m.wr wx) (m.wr wy) (fun e => c (by cases n with | zero => cases e | succ n => omega))
    rw [e.2 _ wx, e.2 _ wy] at hv
    refine ⟨e.trans e2, ?_⟩
    rw [if_neg (by omega), nv, nv, nv, ho, nv_app _ _ _ _ _ (by omega), gsnE _ _ _ hl.symm, nv_ex e2 r n (by omega), Int.pow_succ]
    generalize nv (suG B x y G n).1 V (suG B x y G n).2.1 n = N at *
    generalize vl (suS B (x.getD n 0) (y.getD n 0) (n == 0) (suG B x y G n)).1 V o = vo at *
    generalize vl (suS B (x.getD n 0) (y.getD n 0) (n == 0) (suG B x y G n)).1 V (suS B (x.getD n 0) (y.getD n 0) (n == 0) (suG B x y G n)).2.2 = vc at *
    generalize vl (suG B x y G n).1 V (suG B x y G n).2.2 = c0 at *
    generalize vl G V (x.getD n 0) = xv at *
    generalize vl G V (y.getD n 0) = yv at *
    by_cases h0 : n = 0
    · subst h0
      simp only [if_true, beq_self_eq_true] at f hv
      simp only [Int.pow_zero] at f ⊢
      omega
    · rw [if_neg h0] at f
      rw [if_neg (by simpa using h0)] at hv
      generalize (2 : Int) ^ n = T at *
      grind
theorem mod_pow_succ (p : Int) (n : Nat) : p % 2 ^ (n + 1) = p % 2 ^ n + p / 2 ^ n % 2 * 2 ^ n := by
  have hT : (0 : Int) < 2 ^ n := Int.pow_pos (by decide)
  rw [Int.pow_succ]
  generalize (2 : Int) ^ n = T at *
  have h1 := Int.emod_nonneg p (show T ≠ 0 by omega)
  have h2 := Int.emod_lt_of_pos p hT
  have h3 := Int.mul_ediv_add_emod p T
  have h4 := Int.mul_ediv_add_emod (p / T) 2
  generalize p % T = r at *
  generalize p / T = q at *
  have h6 : q % 2 = 0 ∨ q % 2 = 1 := by omega
  generalize q % 2 = b at *
  generalize q / 2 = d at *
  have h5 : p = (r + b * T) + T * 2 * d := by rw [← h3, ← h4]; grind
  rw [h5, Int.add_mul_emod_self_left]
  rcases h6 with rfl | rfl
  · exact Int.emod_eq_of_lt (by omega) (by omega)
  · exact Int.emod_eq_of_lt (by omega) (by omega)
theorem coL_val {B p : Int} {V G : List Int} (h : Gd B G) (hV : (V.length : Int) = B) (z : Int) (h0 : vl G V z = 0) (h1 : vl G V (z - 1) = 1) (m : Nat) : ∀ n, n ≤ m → nv G V (coL z p m) n = p % 2 ^ n
  | 0, _ => by simp [nv]
  | n + 1, hn => by
    rw [nv, coL_val h hV z h0 h1 m n (by omega)]
    have e : (coL z p m).getD n 0 = z - p / 2 ^ n % 2 := by simp [coL, List.getD, show n < m by omega]
    rw [e]
    have e2 : vl G V (z - p / 2 ^ n % 2) = p / 2 ^ n % 2 := by
      rcases Int.emod_two_eq (p / 2 ^ n) with k | k <;> rw [k]
      · rw [Int.sub_zero]; exact h0
      · exact h1
    rw [e2]
    exact (mod_pow_succ p n).symm
theorem nv_of {G G' V r r' : List Int} : ∀ n, (∀ k, k < n → vl G' V (r'.getD k 0) = vl G V (r.getD k 0)) → nv G' V r' n = nv G V r n
  | 0, _ => rfl
  | n + 1, h => by rw [nv, nv, nv_of n (fun k hk => h k (by omega)), h n (by omega)]
theorem nv_in {V : List Int} {f m : Nat} {a : Int} (h : ∀ k, k < m → V.getD (f + k) 0 = a / 2 ^ k % 2) : ∀ n, n ≤ m → nv [] V (spL f m) n = a % 2 ^ n
  | 0, _ => by simp [nv]
  | n + 1, hn => by
    rw [nv, nv_in h n (by omega), spL_at _ _ _ (by omega)]
    have e : vl [] V ((f : Int) + (n : Int)) = a / 2 ^ n % 2 := by
      rw [← h n (by omega)]
      show V.getD ((f : Int) + (n : Int)).toNat 0 = _
      congr 1
    rw [e]
    exact (mod_pow_succ a n).symm
theorem low_bits {G V r : List Int} (hb : Bt V) (n : Nat) (h : nv G V r (n + 1) < 2 ^ n) : nv G V r n = nv G V r (n + 1) := by
  have h2 := nv_rng (G := G) hb r n
  rw [nv] at h ⊢
  rcases vl_bit hb G (r.getD n 0) with e | e <;> rw [e] at h ⊢ <;> omega
theorem wid_pow {p : Int} (h1 : 2 ≤ p) (h2 : p ≤ 256) : 1 ≤ wid p ∧ p ≤ 2 ^ wid p := by
  rcases wid_cases p with h | h | h | h | h | h | h | h | h
  all_goals
    first | omega | (rw [h.2.2]; omega) | (rw [h.2]; omega)
theorem re_val {p : Int} (h : isPr p = true) {V : List Int} (hV : (V.length : Int) = (wid p : Nat) + (wid p : Nat)) (hb : Bt V) (hx : nv [] V (spL 0 (wid p)) (wid p) < p) (hy : nv [] V (spL (wid p : Nat) (wid p)) (wid p) < p) :
    nv (reG p) V (reO p) (wid p) = (nv [] V (spL 0 (wid p)) (wid p) + nv [] V (spL (wid p : Nat) (wid p)) (wid p)) % p := by
  obtain ⟨p1, p2⟩ := isPr_range h
  obtain ⟨hn1, hp⟩ := wid_pow p1 (by omega)
  unfold reG reO
  generalize wid p = n at *
  have hB : (0 : Int) ≤ (n : Int) + n := by omega
  have w1 := spL_ws (B := (n : Int) + n) (G := []) n (Int.le_refl 0) (by omega)
  have w2 := spL_ws (B := (n : Int) + n) (f := n) (G := []) n (by omega) (by omega)
  have l1 : n ≤ (spL 0 n).length := by rw [spL_len]; exact Nat.le_refl _
  have l2 : n ≤ (spL (n : Nat) n).length := by rw [spL_len]; exact Nat.le_refl _
  have la := adG_len ((n : Int) + n) (spL 0 n) (spL n n) [] n
  obtain ⟨ga, ma, wa, ca⟩ := adG_good (Gd.nil hB) w1 w2 n l1 l2
  obtain ⟨ea, va⟩ := adG_val (Gd.nil hB) hV hb w1 w2 n l1 l2
  rw [if_neg (by omega)] at va
  have x0 := (nv_rng (G := []) hb (spL 0 n) n).1
  have y0 := (nv_rng (G := []) hb (spL n n) n).1
  generalize nv [] V (spL 0 n) n = X at *
  generalize nv [] V (spL n n) n = Y at *
  have e1 : re1 n = adG ((n : Int) + n) (spL 0 n) (spL n n) [] n := rfl
  rw [← e1] at la ga ma wa ca ea va
  clear e1
  generalize re1 n = r at *
  replace ca := ca (by omega)
  have g2 := ga.one
  obtain ⟨x2, n2, v2⟩ := gt_step ga hV 3 0 0
  rw [ev_one] at v2
  have g3 := g2.not n2
  obtain ⟨x3, n3, v3⟩ := gt_step g2 hV 2 (gW ((n : Int) + n) r.1) 0
  rw [ev_not, v2] at v3
  have v2' := x3.2 _ n2
  rw [v2] at v2'
  have wS := (ma.trans (x2.trans x3).1).ws (Ws.nil _ _)
  have ws0 : Ws ((n : Int) + n) r.1 (r.2.1 ++ [r.2.2]) := wa.app (Ws.one ca)
  have ws := (x2.trans x3).1.ws ws0
  have lS : (r.2.1 ++ [r.2.2]).length = n + 1 := by rw [List.length_append]; simp; omega
  have vS : nv (gt (gt r.1 3 0 0) 2 (gW ((n : Int) + n) r.1) 0) V (r.2.1 ++ [r.2.2]) (n + 1) = X + Y := by
    rw [nv_ex (x2.trans x3) ws0 (n + 1) (by omega), nv, nv_app _ _ _ _ _ (by omega), gsnE _ _ _ la.2.symm]
    exact va
  have hz : gW ((n : Int) + n) (gt r.1 3 0 0) - 1 = gW ((n : Int) + n) r.1 := by rw [gW_gt]; omega
  have wc : Ws ((n : Int) + n) (gt (gt r.1 3 0 0) 2 (gW ((n : Int) + n) r.1) 0) (coL (gW ((n : Int) + n) (gt r.1 3 0 0)) p (n + 1)) := coL_ws (n + 1) n3 (by rw [hz]; exact x3.1.wr n2)
  have vc := coL_val (p := p) g3 hV (gW ((n : Int) + n) (gt r.1 3 0 0)) v3 (by rw [hz]; exact v2') (n + 1) (n + 1) (Nat.le_refl _)
  have hp2 : p % 2 ^ (n + 1) = p := Int.emod_eq_of_lt (by omega) (by rw [Int.pow_succ]; omega)
  rw [hp2] at vc
  have lc : n + 1 ≤ (coL (gW ((n : Int) + n) (gt r.1 3 0 0)) p (n + 1)).length := by rw [coL_len]; exact Nat.le_refl _
  have ls := suG_len ((n : Int) + n) (r.2.1 ++ [r.2.2]) (coL (gW ((n : Int) + n) (gt r.1 3 0 0)) p (n + 1)) (gt (gt r.1 3 0 0) 2 (gW ((n : Int) + n) r.1) 0) (n + 1)
  obtain ⟨gs, ms, wd, cd⟩ := suG_good g3 ws wc (n + 1) (by omega) lc
  obtain ⟨es, vs⟩ := suG_val g3 hV hb ws wc (n + 1) (by omega) lc
  rw [if_neg (by omega), vS, vc] at vs
  have e3 : re3 n p r = suG ((n : Int) + n) (r.2.1 ++ [r.2.2]) (coL (gW ((n : Int) + n) (gt r.1 3 0 0)) p (n + 1)) (gt (gt r.1 3 0 0) 2 (gW ((n : Int) + n) r.1) 0) (n + 1) := rfl
  rw [← e3] at ls gs ms wd cd es vs
  clear e3
  generalize re3 n p r = q at *
  replace cd := cd (by omega)
  have vS2 := nv_ex es ws (n + 1) (by omega)
  rw [vS] at vS2
  have wsq := es.1.ws ws
  obtain ⟨ez, vz⟩ := chG_val gs hV hb cd wsq wd n (by omega) (by omega)
  have e4 : re4 n r q = chG ((n : Int) + n) q.2.2 (r.2.1 ++ [r.2.2]) q.2.1 q.1 n := rfl
  rw [← e4] at vz
  have r1 := nv_rng (G := q.1) hb q.2.1 (n + 1)
  rw [Int.pow_succ] at r1 vs
  rcases vl_bit hb q.1 q.2.2 with hb0 | hb1
  · rw [hb0] at vs vz
    rw [nv_of (G := q.1) (r := q.2.1) n (fun k hk => by rw [vz k hk, if_neg (by decide)]), low_bits hb n (by omega)]
    rw [show nv q.1 V q.2.1 (n + 1) = X + Y - p by omega]
    rw [← Int.sub_emod_right]
    exact (Int.emod_eq_of_lt (by omega) (by omega)).symm
  · rw [hb1] at vs vz
    rw [nv_of (G := q.1) (r := r.2.1 ++ [r.2.2]) n (fun k hk => by rw [vz k hk, if_pos rfl]), low_bits hb n (by omega), vS2]
    exact (Int.emod_eq_of_lt (by omega) (by omega)).symm
end Go.Proofs.YtchmakepglaijaaGreat
namespace Go.Proofs.YtchmakepglaijaaGreat
open Go.RowKit
theorem btL_bt (n : Int) (k : Nat) : Bt (btL n k) := fun x hx => by have := btL_rng n k x hx; omega
theorem btL_at (n : Int) (k i : Nat) (h : i < k) : (btL n k).getD i 0 = n / 2 ^ i % 2 := by simp [btL, List.getD, h]
theorem re_run {p x y : Int} (h : isPr p = true) (hx : 0 ≤ x ∧ x ≤ p - 1) (hy : 0 ≤ y ∧ y ≤ p - 1) : nv (reG p) (btL x (wid p) ++ btL y (wid p)) (reO p) (wid p) = (x + y) % p := by
  obtain ⟨p1, p2⟩ := isPr_range h
  obtain ⟨_, hw⟩ := wid_pow p1 (by omega)
  have ex : nv [] (btL x (wid p) ++ btL y (wid p)) (spL 0 (wid p)) (wid p) = x := by
    have := nv_in (V := btL x (wid p) ++ btL y (wid p)) (f := 0) (m := wid p) (a := x) (fun k hk => by rw [Nat.zero_add, gapp _ _ _ (by rw [btL_len]; exact hk), btL_at _ _ _ hk]) (wid p) (Nat.le_refl _)
    rw [Int.emod_eq_of_lt (by omega) (by omega)] at this
    exact this
  have ey : nv [] (btL x (wid p) ++ btL y (wid p)) (spL (wid p : Nat) (wid p)) (wid p) = y := by
    have := nv_in (V := btL x (wid p) ++ btL y (wid p)) (f := wid p) (m := wid p) (a := y) (fun k hk => by rw [gappR _ _ _ (by rw [btL_len]; omega), btL_len, Nat.add_sub_cancel_left, btL_at _ _ _ hk]) (wid p) (Nat.le_refl _)
    rw [Int.emod_eq_of_lt (by omega) (by omega)] at this
    exact this
  have := re_val (V := btL x (wid p) ++ btL y (wid p)) h (by rw [List.length_append, btL_len, btL_len]; omega) ((btL_bt _ _).app (btL_bt _ _)) (by rw [ex]; omega) (by rw [ey]; omega)
  rw [ex, ey] at this
  exact this
end Go.Proofs.YtchmakepglaijaaGreat
namespace Go.Proofs.YtchmakepglaijaaGreat
open Go.RowKit
theorem num_rng8 {l : List Int} (h : Bt l) : 0 ≤ num l ∧ num l < 2 ^ l.length := by
  induction l with
  | nil => simp [num]
  | cons x l ih =>
    have h1 := ih (fun y hy => h y (List.mem_cons_of_mem _ hy))
    have h2 := h x (List.mem_cons_self ..)
    rw [num, List.length_cons, Int.pow_succ]
    omega
theorem or0 : ∀ m : Fin 256, bits BinOp.or IntKind.i64 (m.val : Int) 0 = (m.val : Int) := by decide +kernel
theorem or1 : ∀ (k : Fin 8) (m : Fin 128), m.val < 2 ^ k.val → bits BinOp.or IntKind.i64 (m.val : Int) (((2 ^ k.val : Nat) : Int)) = ((m.val + 2 ^ k.val : Nat) : Int) := by decide +kernel
theorem pow8 (k : Nat) (h : k < 8) : 1 ≤ (2 : Int) ^ k ∧ (2 : Int) ^ k ≤ 128 := by
  rcases (by omega : k = 0 ∨ k = 1 ∨ k = 2 ∨ k = 3 ∨ k = 4 ∨ k = 5 ∨ k = 6 ∨ k = 7) with rfl | rfl | rfl | rfl | rfl | rfl | rfl | rfl <;> omega
theorem or_bit8 (N x : Int) (k : Nat) (h0 : 0 ≤ N) (h1 : N < 2 ^ k) (hk : k < 8) (hx : x = 0 ∨ x = 1) : bits BinOp.or IntKind.i64 N (x * 2 ^ k) = N + x * 2 ^ k := by
  obtain ⟨p1, p2⟩ := pow8 k hk
  obtain ⟨m, rfl⟩ : ∃ m : Nat, N = m := ⟨N.toNat, by omega⟩
  rcases hx with rfl | rfl
  · rw [Int.zero_mul, Int.add_zero]
    exact or0 ⟨m, by omega⟩
  · rw [Int.one_mul]
    have e : ((2 ^ k : Nat) : Int) = (2 : Int) ^ k := by simp
    have := or1 ⟨k, hk⟩ ⟨m, by omega⟩ (by show m < 2 ^ k; omega)
    simp only at this
    rw [e] at this
    rw [this, Int.natCast_add, e]
set_option maxHeartbeats 4000000 in
set_option maxRecDepth 100000 in
theorem number8_any (a : Option Addr) (n c : Nat) (l : List Int) (w : World) (h : Ints w a n c l) (hb : Bt l) (hn : n ≤ 8) :
    Calls Tryz.prog 79 #[.slice a n c] w fun e w' => e = .returned (.int .i64 (num l)) ∧ ∃ m, w' = w.drewN m := by
  have HL := Lib.hid h.len
  have HT := Lib.hid hb.take
  have HB := Lib.hid hb.at
  clear hb
  go_enter Tryz.func79, Tryz.ntmps79
  go_wp2
  go_loopw [8, 3] (fun v u wr => ∃ k : Nat, k ≤ n ∧ v = .int .i64 k ∧ u = .int .i64 (num (l.take k)) ∧ ∃ m, wr = w.drewN m) (fun v _ _ => n - (intOf v).toNat)
  case atStart => exact ⟨0, Nat.zero_le _, rfl, rfl, 0, rfl⟩
  case round =>
    obtain ⟨k, hkn, rfl, rfl, m, rfl⟩ := hrel
    by_cases hlt : k < n
    · obtain ⟨g, o, rfl, e0⟩ := h.at k hlt
      have hlen := HL.out
      have hx := HB.out k
      have HS := Lib.hid (num_take l k (by omega))
      obtain ⟨r0, r1⟩ := num_rng8 (HT.out k)
      rw [List.length_take, Nat.min_eq_left (by omega)] at r1
      generalize num (l.take k) = N at *
      generalize l.getD k 0 = x at *
      have t3 := or_bit8 N x k r0 r1 (by omega) hx
      have t2 : IntKind.u64.wrap (k : Int) = (k : Int) := IntWalk.u64_in _ (by omega)
      have hp := pow8 k (by omega)
      have hm : 0 ≤ x * 2 ^ k ∧ x * 2 ^ k ≤ 128 := by rcases hx with rfl | rfl <;> omega
      have t1 : wrap64 (x * 2 ^ k) = x * 2 ^ k := IntWalk.wrap64_in _ (by omega)
      have T := Lib.hid (show bits BinOp.or IntKind.i64 N (wrap64 (x * 2 ^ k)) = num (l.take (k + 1)) by rw [t1, t3, HS.out])
      have hk64 : (k : Int) < 64 := by omega
      clear hx r0 r1 hp hm t3 t1 HS
      go_wp2
      go_roundw
      case rel => exact ⟨k + 1, by omega, by go_num, v_int T.out, m, rfl⟩
      case measure => simp [intOf]; omega
    · obtain rfl : k = n := by omega
      have HX := Lib.hid (show num (l.take k) = num l by rw [List.take_of_length_le (by have := HL.out; omega)])
      go_wp2
      go_ret
      exact ⟨ret_int HX.out, m, rfl⟩
theorem num_pk (G V O : List Int) : ∀ k, num (pkL (evL G V (G.length / 3)) O k) = nv G V O k
  | 0 => rfl
  | k + 1 => by
    rw [pkL_succ, num_snoc, pkL_len, num_pk G V O k, nv]
    rfl
end Go.Proofs.YtchmakepglaijaaGreat
namespace Go.Proofs.YtchmakepglaijaaGreat
open Go.RowKit
set_option maxHeartbeats 8000000 in
set_option maxRecDepth 100000 in
theorem RunWith_re (p x y : Int) (ga : Option Addr) (gn gc : Nat) (oa : Option Addr) (on oc : Nat) (w : World) (hp : isPr p = true) (hx : 0 ≤ x ∧ x ≤ p - 1) (hy : 0 ≤ y ∧ y ≤ p - 1) (hG : Flat 3 w ga gn gc (reG p)) (hO : Ints w oa on oc (reO p)) :
    Calls Tryz.prog 32 #[.agg #[.int .i64 (wid p : Nat), .int .i64 (wid p : Nat), .slice ga gn gc, .slice oa on oc], .int .i64 x, .int .i64 y] w fun e w' => e = .returned (.tuple #[.int .i64 ((x + y) % p), .bool true]) ∧ Below w.heap.size w w' := by
  obtain ⟨p1, p2⟩ := isPr_range hp
  obtain ⟨hW1, hpw⟩ := wid_pow p1 (by omega)
  have hw8 := wid_le p
  have hgl := hG.len
  have hol : on = wid p := by rw [hO.len, reO_len]
  obtain ⟨hk, hr, hl9⟩ := re_gates hp
  have hgn : gn = (reG p).length / 3 := by omega
  have hgm : gn ≤ 300 := by omega
  rw [← hgn] at hk hr
  have hci := re_ok hp
  rw [← hgn] at hci
  have HK := Lib.hid hk
  have HR := Lib.hid hr
  have HBV : Hid (Bt (btL x (wid p) ++ btL y (wid p))) := Lib.hid ((btL_bt _ _).app (btL_bt _ _))
  have HBP : Hid (Bt (pkL (evL (reG p) (btL x (wid p) ++ btL y (wid p)) gn) (reO p) on)) := Lib.hid (pkL_bits (evL_bits _ HBV.out _) _ _)
  have HNUM : Hid (num (pkL (evL (reG p) (btL x (wid p) ++ btL y (wid p)) gn) (reO p) on) = (x + y) % p) := Lib.hid (by rw [hgn, num_pk, hol]; exact re_run hp hx hy)
  have CC := Lib.hid (fun (Wd : World) (q : Below w.heap.size w Wd) => IsCircuit_any (wid p : Nat) (wid p : Nat) ga gn gc (reG p) oa on oc (reO p) Wd (hG.below q) (hO.below q))
  rw [hci] at CC
  clear hk hr hci hgl hgn hl9
  obtain ⟨nW, hW⟩ : ∃ nW, nW = wid p := ⟨_, rfl⟩
  have hxw : x ≤ 2 ^ nW - 1 := by rw [hW]; omega
  have hyw : y ≤ 2 ^ nW - 1 := by rw [hW]; omega
  rw [← hW] at HK HR HBV HBP HNUM CC hol hW1 hw8 hpw ⊢
  have hp2 : 1 ≤ (2 : Int) ^ nW ∧ (2 : Int) ^ nW ≤ 256 := by
    rcases (by omega : nW = 0 ∨ nW = 1 ∨ nW = 2 ∨ nW = 3 ∨ nW = 4 ∨ nW = 5 ∨ nW = 6 ∨ nW = 7 ∨ nW = 8) with rfl | rfl | rfl | rfl | rfl | rfl | rfl | rfl | rfl <;> omega
  obtain rfl : nW = on := hol.symm
  clear hW
  obtain ⟨Z, hZ⟩ : ∃ z : Int, z = 2 ^ nW := ⟨_, rfl⟩
  rw [← hZ] at hp2 hpw hxw hyw
  have t2 : IntKind.u64.wrap (nW : Int) = (nW : Int) := IntWalk.u64_in _ (by omega)
  have t3 : IntKind.i64.wrap (Z - 1) = Z - 1 := IntWalk.i64_in _ (by omega)
  have ix : inB x 0 (Z - 1) = true := by unfold inB; exact decide_eq_true ⟨hx.1, hxw⟩
  have iy : inB y 0 (Z - 1) = true := by unfold inB; exact decide_eq_true ⟨hy.1, hyw⟩
  have h64 : (nW : Int) < 64 := by omega
  have d2 : decide ((nW : Int) > 16) = false := decide_eq_false (by omega)
  have n2 : ¬ (nW : Int) > 16 := by omega
  have HX := Lib.hid (And.intro hx (And.intro hy (And.intro p2 hw8)))
  have Ht1 : Hid (IntKind.i64.wrap (1 * 2 ^ nW) = Z) := Lib.hid (by rw [Int.one_mul, ← hZ]; exact IntWalk.i64_in _ (by omega))
  have Ht1q : Hid (wrap64 (1 * 2 ^ nW) = Z) := Lib.hid (by rw [Int.one_mul, ← hZ]; exact IntWalk.wrap64_in _ (by omega))
  have Ht1qq : Hid (wrap64 (2 ^ nW) = Z) := Lib.hid (by rw [← hZ]; exact IntWalk.wrap64_in _ (by omega))
  clear hZ hx hy hxw hyw hpw hp2 hw8
  have t1 := Ht1.out
  have t1' := Ht1q.out
  have t1'' := Ht1qq.out
  clear Ht1 Ht1q Ht1qq
  go_enter Tryz.func32, Tryz.ntmps32
  go_wp2_with fail
  refine Exists.elim (Blk.new_ w (b := w.heap.size) rfl 49 #[.int .i64 (nW : Nat), .int .i64 (nW : Nat), .slice ga gn gc, .slice oa nW oc]) (fun w1' q => ?_)
  rw [q.1]; have B_x := q.2.1; have s_w1' := q.2.2.1; have u_w1' := q.2.2.2; clear q
  have S_w1' : w.heap.size + 1 ≤ w1'.heap.size := Nat.le_of_eq s_w1'.symm
  have V_w1' := (Below.refl w.heap.size w).trans (u_w1'.mono ((Below.refl w.heap.size w)).size)
  clear u_w1' s_w1'
  refine (CC.out _ V_w1').mono ?_
  rintro e w2' ⟨rfl, u_w2'⟩
  replace B_x := B_x.below u_w2'
  have S_w2' := u_w2'.size
  have V_w2' : Below w.heap.size w w2' := V_w1'.trans (u_w2'.mono V_w1'.size)
  clear V_w1'
  clear u_w2'
  have e_x := B_x.all4
  go_wp2_with fail
  refine (within_any x 0 (Z - 1) _).mono ?_; rintro e w' ⟨rfl, rfl⟩
  rw [ix]
  go_wp2_with fail
  refine (within_any y 0 (Z - 1) _).mono ?_; rintro e w' ⟨rfl, rfl⟩
  rw [iy]
  go_upto_region 3 with fail
  clear e_x
  clear t1 t1' t1'' t3 ix iy h64 d2 n2 t2
  obtain ⟨hx, hy, p2, hw8⟩ := HX.out
  refine wp_region_noPanic ?_
  refine wp_region_held_drew (S := (fun W => Blk W (w.heap.size) 49 #[.int .i64 (nW : Nat), .int .i64 (nW : Nat), .slice ga gn gc, .slice oa nW oc])) (by kernel_rfl) ?hS1 (fun hHeld => ?go1)
  case hS1 => exact B_x.drew
  refine tk (i := 0) (oi := ⟨some 47, _, _, _, _, _⟩) (v := ?v0_2) hHeld rfl ?y0_2 ?r0_2
  case y0_2 => (intro w qS0; have cS0 := qS0.all4; first | (go_simp; first | done | with_reducible rfl) | with_reducible rfl)
  (try simp only [pt_])
  refine tk (i := 1) (oi := ⟨some 48, _, _, _, _, _⟩) (v := ?v1_3) hHeld rfl ?y1_3 ?r1_3
  case y1_3 => (intro w _; first | (go_simp; first | done | with_reducible rfl) | with_reducible rfl)
  (try simp only [pt_])
  refine tk (i := 2) (oi := ⟨some 49, _, _, _, _, _⟩) (v := ?v2_4) hHeld rfl ?y2_4 ?r2_4
  case y2_4 => (intro w _; first | (go_simp; first | done | with_reducible rfl) | with_reducible rfl)
  (try simp only [pt_])
  refine tk (i := 3) (oi := ⟨some 50, _, _, _, _, _⟩) (v := ?v3_5) hHeld rfl ?y3_5 ?r3_5
  case y3_5 => (intro w qS0; have cS0 := qS0.all4; first | (go_simp; first | done | with_reducible rfl) | with_reducible rfl)
  (try simp only [pt_])
  refine tk (i := 5) (oi := ⟨some 52, _, _, _, _, _⟩) (v := ?v5_6) hHeld rfl ?y5_6 ?r5_6
  case y5_6 => (intro w _; first | (go_simp; first | done | with_reducible rfl) | with_reducible rfl)
  (try simp only [pt_])
  refine tk (i := 6) (oi := ⟨some 53, _, _, _, _, _⟩) (v := ?v6_7) hHeld rfl ?y6_7 ?r6_7
  case y6_7 => (intro w _; first | (go_simp; first | done | with_reducible rfl) | with_reducible rfl)
  (try simp only [pt_])
  refine tk (i := 7) (oi := ⟨some 54, _, _, _, _, _⟩) (v := ?v7_8) hHeld rfl ?y7_8 ?r7_8
  case y7_8 => (intro w qS0; have cS0 := qS0.all4; first | (go_simp; first | done | with_reducible rfl) | with_reducible rfl)
  (try simp only [pt_])
  refine tk (i := 11) (oi := ⟨some 58, _, _, _, _, _⟩) (v := ?v11_9) hHeld rfl ?y11_9 ?r11_9
  case y11_9 => (intro w _; first | (go_simp; first | done | with_reducible rfl) | with_reducible rfl)
  (try simp only [pt_])
  refine tk (i := 12) (oi := ⟨some 59, _, _, _, _, _⟩) (v := ?v12_10) hHeld rfl ?y12_10 ?r12_10
  case y12_10 => (intro w qS0; have cS0 := qS0.all4; first | (go_simp; first | done | with_reducible rfl) | with_reducible rfl)
  (try simp only [pt_])
  refine wpAnyH_ready (rs := [4]) (by kernel_rfl) (by simp) ?_
  refine AllReadyH.cons (o := ⟨some 51, _, _, _, _, _⟩) rfl (fun K hK => ?_) ?_
  go_simp
  refine (bitsOf_any x nW _ (by omega) (by omega)).mono ?_
  rintro e w4 ⟨a4, c4, rfl, oA, u4⟩
  have bx4 := (Blk.drew B_x).below u4
  have v4 := (V_w2'.drew).trans (u4.mono (V_w2'.drew).size)
  have s4 := u4.size
  clear u4
  refine hK.out _ _ ?_ (fun hHeld => ?_)
  · exact bx4
  clear hK K
  (try simp only [pt_])
  refine wpAnyH_ready (rs := [8]) (by kernel_rfl) (by simp) ?_
  refine AllReadyH.cons (o := ⟨some 55, _, _, _, _, _⟩) rfl (fun K hK => ?_) ?_
  go_simp
  refine (bitsOf_any y nW _ (by omega) (by omega)).mono ?_
  rintro e w8 ⟨a8, c8, rfl, oB, u8⟩
  have bx8 := bx4.below u8
  have v8 := v4.trans (u8.mono v4.size)
  have s8 := u8.size
  replace oA := oA.below u8
  clear u8
  refine hK.out _ _ ?_ (fun hHeld => ?_)
  · exact bx8
  clear hK K
  (try simp only [pt_])
  refine wpAnyH_ready (rs := [9]) (by kernel_rfl) (by simp) ?_
  refine AllReadyH.cons (o := ⟨some 56, _, _, _, _, _⟩) rfl (fun K hK => ?_) ?_
  go_simp
  refine (with_any _ _ _ _ _ _ _ _ _ oA.ints oB.ints (by omega) (by omega)).mono ?_
  rintro e w9 ⟨a9, c9, rfl, oV, u9⟩
  have bx9 := bx8.below u9
  have v9 := v8.trans (u9.mono v8.size)
  have s9 := u9.size
  clear u9
  refine hK.out _ _ ?_ (fun hHeld => ?_)
  · exact bx9
  clear hK K
  (try simp only [pt_])
  refine wpAnyH_ready (rs := [10]) (by kernel_rfl) (by simp) ?_
  refine AllReadyH.cons (o := ⟨some 57, _, _, _, _, _⟩) rfl (fun K hK => ?_) ?_
  go_simp
  refine (values_any _ _ _ _ _ _ _ _ _ _ _ (reG p) _ _ (hG.below v9) oV.ints HK.out HBV.out (by omega) (by omega)).mono ?_
  rintro e w10 ⟨a10, c10, rfl, oE, u10⟩
  have bx10 := bx9.below u10
  have v10 := v9.trans (u10.mono v9.size)
  have s10 := u10.size
  clear u10
  refine hK.out _ _ ?_ (fun hHeld => ?_)
  · exact bx10
  clear hK K
  (try simp only [pt_])
  refine wpAnyH_ready (rs := [13]) (by kernel_rfl) (by simp) ?_
  refine AllReadyH.cons (o := ⟨some 60, _, _, _, _, _⟩) rfl (fun K hK => ?_) ?_
  go_simp
  refine (pk_at _ _ _ _ _ _ _ (reO p) _ oE.ints (hO.below v10) (by omega) (by omega) HR.out).mono ?_
  rintro e w13 ⟨a13, c13, rfl, oP, u13⟩
  have bx13 := bx10.below u13
  have v13 := v10.trans (u13.mono v10.size)
  have s13 := u13.size
  clear u13
  refine hK.out _ _ ?_ (fun hHeld => ?_)
  · exact bx13
  clear hK K
  (try simp only [pt_])
  refine wpAnyH_ready (rs := [14]) (by kernel_rfl) (by simp) ?_
  refine AllReadyH.cons (o := ⟨some 61, _, _, _, _, _⟩) rfl (fun K hK => ?_) ?_
  go_simp
  refine (number8_any _ _ _ _ _ oP.ints HBP.out (by omega)).mono ?_
  rintro e w14 ⟨rfl, m14, rfl⟩
  have bx14 := bx13.below (below_of_drewN (w := w13) m14)
  rw [HNUM.out]
  refine hK.out _ _ ?_ (fun hHeld => ?_)
  · exact bx14
  clear hK K
  (try simp only [pt_])
  refine tk (i := 15) (oi := ⟨some 6, _, _, _, _, _⟩) (v := ?v15_11) hHeld rfl ?y15_11 ?r15_11
  case y15_11 => (intro w _; first | (go_simp; first | done | with_reducible rfl) | with_reducible rfl)
  (try simp only [pt_])
  refine tk (i := 16) (oi := ⟨some 7, _, _, _, _, _⟩) (v := ?v16_12) hHeld rfl ?y16_12 ?r16_12
  case y16_12 => (intro w _; first | (go_simp; first | done | with_reducible rfl) | with_reducible rfl)
  (try simp only [pt_])
  refine wpAnyH_done (by kernel_rfl) ?_ _
  refine NoPanic.normal ?_
  rotate_left 1
  exact AllReadyH.nil
  exact AllReadyH.nil
  exact AllReadyH.nil
  exact AllReadyH.nil
  exact AllReadyH.nil
  exact AllReadyH.nil
  clear bx4 bx8 bx9 bx10 bx13
  go_wp2
  go_ret2
  exact ⟨rfl, v13.trans ((below_of_drewN m14).mono v13.size)⟩
end Go.Proofs.YtchmakepglaijaaGreat
