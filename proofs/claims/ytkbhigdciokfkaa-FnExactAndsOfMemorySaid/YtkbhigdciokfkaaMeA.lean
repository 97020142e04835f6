/- The reference's circuits of cells: the beginning. -/
import Derived.Test.YtkbhigdciokfkaaCiNew
import Derived.Test.YtkbhigdciokfkaaMmV
import Derived.Test.YtkbhigdciokfkaaTree
import Derived.Test.YtkbhigdciokfkaaMem
namespace Go.Proofs.Ytkbhigdciokfkaa
open Go.RowKit
/-- A row that is read, in blocks from b on. -/
structure Rd (w : World) (b : Nat) (a : Option Addr) (n c : Nat) (l : List Int) : Prop where
  ints : Ints w a n c l
  feet : ∀ k ∈ foot a c, b ≤ k ∧ k < w.heap.size
theorem Own.rd {w b a n c l} (o : Own w b a n c l) : Rd w b a n c l := ⟨o.ints, o.feet⟩
theorem Rd.len {w b a n c l} (h : Rd w b a n c l) : n = l.length := h.ints.len
theorem Rd.below {w w' b a n c l} (h : Rd w b a n c l) (u : Below w.heap.size w w') : Rd w' b a n c l := ⟨h.ints.below u, fun k hk => ⟨(h.feet k hk).1, Nat.lt_of_lt_of_le (h.feet k hk).2 u.size⟩⟩
theorem Rd.alloc {w b a n c l} (h : Rd w b a n c l) (o : Obj) : Rd (w.alloc o) b a n c l := h.below ((Below.refl _ _).alloc (Nat.le_refl _) _)
theorem Rd.only {F w w' b a n c l} (h : Rd w b a n c l) (u : Only F w w') (d : Disj (foot a c) F) : Rd w' b a n c l :=
  ⟨h.ints.only u (fun x hn hx hm => d x.block (by rw [hx]; exact foot_mem (by have := h.ints.2.1; omega)) hm), fun k hk => ⟨(h.feet k hk).1, Nat.lt_of_lt_of_le (h.feet k hk).2 u.size⟩⟩
theorem Rd.lower {w b b' a n c l} (h : Rd w b a n c l) (hb : b' ≤ b) : Rd w b' a n c l := ⟨h.ints, fun k hk => ⟨Nat.le_trans hb (h.feet k hk).1, (h.feet k hk).2⟩⟩
set_option maxHeartbeats 4000000 in
theorem meGood_any (n wd : Int) (w : World) :
    Calls Try.prog 93 #[.int .i64 n, .int .i64 wd] w fun e w' => e = .returned (.bool (inB n 1 8 && inB wd 1 4)) ∧ w = w' := by
  cases h1 : inB n 1 8
  · simp only [Bool.false_and]
    go_enter Try.func93, Try.ntmps93
    go_wp2_with (first | (go_at_call 76; refine (l1In_any _ _ _ _).mono ?_; rintro e w' ⟨rfl, rfl⟩))
    go_ret
    exact ⟨rfl, rfl⟩
  · simp only [Bool.true_and]
    go_enter Try.func93, Try.ntmps93
    go_wp2_with (first | (go_at_call 76; refine (l1In_any _ _ _ _).mono ?_; rintro e w' ⟨rfl, rfl⟩))
    go_ret
    exact ⟨rfl, rfl⟩
set_option maxHeartbeats 4000000 in
theorem meIndex_any (n : Int) (w : World) (h1 : 1 ≤ n) (h2 : n ≤ 256) :
    Calls Try.prog 114 #[.int .i64 n] w fun e w' => e = .returned (.int .i64 (wid n)) ∧ w = w' := by
  go_enter Try.func114, Try.ntmps114
  go_wp2_with (first | (go_at_call 65; refine (cvWidth_any _ _ h1 h2).mono ?_; rintro e w' ⟨rfl, rfl⟩))
  go_ret
  exact ⟨rfl, rfl⟩
set_option maxHeartbeats 8000000 in
set_option maxRecDepth 100000 in
theorem meStart_any (n wd more v : Nat) (w : World) (hn : 1 ≤ n ∧ n ≤ 8) (hw : 1 ≤ wd ∧ wd ≤ 4) (hmo : more ≤ 4) (hv : wid (n : Int) = v) :
    Calls Try.prog 135 #[.int .i64 n, .int .i64 wd, .int .i64 more] w fun e w' => ∃ g ca cc rs ia ic, e = .returned (.tuple #[.pointer (some ⟨g, 0, none⟩), .slice ca n cc, .slice ia v ic]) ∧ Mk 79 w' w.heap.size g ((n * wd : Nat) : Int) ((v : Int) + more) [] [g] ∧ RwD w' ca n cc rs [g] ∧ datas' rs = ceL wd n ∧ (∀ r ∈ rs, ∀ k ∈ foot r.1 r.2.1, w.heap.size ≤ k) ∧ IntD w' ia v ic (spL ((n * wd : Nat) : Int) v) [g] ∧ Below w.heap.size w w' := by
  have hv3 : v ≤ 3 := by rw [← hv]; exact wid8 n hn.2
  obtain ⟨q, hq⟩ : ∃ q, q = n * wd := ⟨_, rfl⟩
  have hqb : q ≤ 8 * 4 := by rw [hq]; exact Nat.mul_le_mul hn.2 hw.2
  rw [← hq]
  have t1 : IntKind.i64.wrap ((n : Int) * (wd : Int)) = (q : Int) := by rw [hq, Int.natCast_mul]; exact IntWalk.i64_in _ (by rw [← Int.natCast_mul, ← hq]; omega)
  have HV := Lib.hid hv
  clear hv hq
  have t2 : IntKind.i64.wrap ((v : Int) + (more : Int)) = (v : Int) + (more : Int) := IntWalk.i64_in _ (by omega)
  go_enter Try.func135, Try.ntmps135
  go_wp2_with fail
  refine (meIndex_any _ _ (by omega) (by omega)).mono ?_; rintro e w' ⟨rfl, rfl⟩
  rw [HV.out]
  go_wp2_with fail
  refine (ciNew_any (q : Int) ((v : Int) + more) w.heap.size _ (Nat.le_refl _)).mono ?_; rintro e w2 ⟨rfl, M2, u2, Z2⟩
  go_wp2
  have hgl : w.heap.size < w2.heap.size := by omega
  go_loopw [10, 11] (fun y u wr => ∃ i, i ≤ n ∧ u = .int .i64 (i : Nat) ∧ (∃ a1 c1 rs, y = .slice a1 i c1 ∧ RwO wr w2.heap.size a1 i c1 rs [w.heap.size] ∧ datas' rs = ceL wd i ∧ (∀ r ∈ rs, ∀ k ∈ foot r.1 r.2.1, w.heap.size ≤ k)) ∧ Below w2.heap.size w2 wr) (fun _ u _ => n - (intOf u).toNat)
  case atStart => exact ⟨0, Nat.zero_le _, rfl, ⟨_, _, [], rfl, RwO.nil _ _ _ _, rfl, fun r hr => by cases hr⟩, Below.refl _ _⟩
  case round =>
    obtain ⟨i, hk, rfl, ⟨a1, c1, rs, rfl, ro, hd, hhi⟩, hbel⟩ := hrel
    by_cases hlt : i < n
    · obtain ⟨m, hm⟩ : ∃ m, m = i * wd := ⟨_, rfl⟩
      have hmb : m ≤ 8 * 4 := by rw [hm]; exact Nat.mul_le_mul (by omega) hw.2
      have t3 : IntKind.i64.wrap ((i : Int) * (wd : Int)) = (m : Int) := by rw [hm, Int.natCast_mul]; exact IntWalk.i64_in _ (by rw [← Int.natCast_mul, ← hm]; omega)
      have HS : Hid (ceL wd (i + 1) = ceL wd i ++ [spL (m : Int) wd]) := Lib.hid (by rw [ceL_succ, hm, Int.natCast_mul])
      have HD := Lib.hid hd
      have HH := Lib.hid hhi
      clear hm hd hhi
      go_wp2_with fail
      refine (gdRange_any (m : Int) wd _ (by omega) (by omega)).mono ?_; rintro e w3 ⟨a3, c3, rfl, o3, u3⟩
      have ro3 := ro.below u3
      have b3 := hbel.trans (u3.mono hbel.size)
      have hrA := o3.away ro.out (Nat.le_refl _)
      have hrI : IntD w3 a3 wd c3 (spL (m : Int) wd) [w.heap.size] := o3.intD (fun k hk hk' => by have := (o3.feet k hk).1; have := hbel.size; simp at hk'; omega)
      have hr3 : ∀ k ∈ foot a3 c3, w.heap.size ≤ k := fun k hk => by have := (o3.feet k hk).1; have := hbel.size; omega
      have lc : (spL (m : Int) wd).length = wd := spL_len _ _
      obtain ⟨L, hL⟩ : ∃ L, L = spL (m : Int) wd := ⟨_, rfl⟩
      rw [← hL] at hrI lc HS
      clear hL o3 u3 ro hbel
      have HR3 := Lib.hid hr3
      clear hr3
      go_wp2_with (at_builtin; refine wpList_appR _ rfl _ _ rfl w2.heap.size _ i _ _ rfl (RwO.alloc ro3 _).out _ 1 (a3, c3, L) rfl (RowC.litR _ _ _ (rowV_of lc) _) (by omega) (by have := b3.size; simp; omega) ?_)
      intro aa ca wa oo ba ga ma
      rw [← lc] at hrI hrA
      have hrB : ∀ y, 0 < L.length → a3 = some y → y.block ∉ foot a1 c1 := hrA
      have Ra := RwO.push (r := (a3, c3, L)) (RwO.alloc ro3 _) (fun k hk => by have := b3.size; simp at hk; simp; omega) (hrI.below ((Below.refl _ _).alloc (Nat.le_refl _) _)) hrB oo ga ma
      have Ba := (b3.alloc b3.size _).trans ba
      clear ro3 b3 hrI hrA hrB oo ba ga ma
      have HLC := Lib.hid lc
      clear lc
      go_wp2
      go_roundw
      case rel => exact ⟨i + 1, by omega, by go_num, ⟨_, _, _, rfl, Ra, by rw [datas_push, HS.out, HD.out], fun r hr k hk => by
        rcases List.mem_append.1 hr with hr | hr
        · exact HH.out r hr k hk
        · rw [List.mem_singleton] at hr; subst hr; exact HR3.out k hk⟩, Ba⟩
      case measure => simp [intOf]; omega
    · obtain rfl : i = n := by omega
      have HD := Lib.hid hd
      have HH := Lib.hid hhi
      clear hd hhi
      have hge : ¬ (i : Int) < (i : Int) := by omega
      have M3 := M2.below hbel
      have rd := ro.rwD
      clear ro
      go_wp2_with fail
      refine (meIndex_any _ _ (by omega) (by omega)).mono ?_; rintro e w' ⟨rfl, rfl⟩
      rw [HV.out]
      go_wp2_with fail
      refine (gdRange_any (q : Int) v _ (by omega) (by omega)).mono ?_; rintro e w5 ⟨xa, xc, rfl, ox, u5⟩
      have dx := ox.intD (Disj.of_rng ox.feet M3.feet (.inr (Nat.le_refl _)))
      have V5 := (u2.trans (hbel.mono u2.size)).trans (u5.mono (u2.trans (hbel.mono u2.size)).size)
      go_wp2
      go_ret3
      exact ⟨_, _, _, _, _, _, rfl, M3.below u5, rd.below u5, HD.out, HH.out, dx, V5⟩
end Go.Proofs.Ytkbhigdciokfkaa
