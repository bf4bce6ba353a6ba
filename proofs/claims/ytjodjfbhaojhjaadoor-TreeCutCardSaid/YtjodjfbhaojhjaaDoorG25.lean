-- Laid by the session's own driver gp.py over the kit's printer. Not trusted: Lean checks it.
import Derived.Test.YtjodjfbhaojhjaaDoorG0
import Derived.Test.YtjodjfbhaojhjaaDoorU6
import Derived.Test.YtjodjfbhaojhjaaDoorU7
import Derived.Test.YtjodjfbhaojhjaaDoorU9
namespace Go.Proofs.YtjodjfbhaojhjaaDoor.G
open Go.RowKit Go.Proofs.YtjodjfbhaojhjaaDoorW.PrintWords Go.Proofs.YtjodjfbhaojhjaaDoorW.PrintLast Go.Proofs.YtjodjfbhaojhjaaDoorW.PrintMore
attribute [local go_sem] max2_int min2_int max_two min_two max_three min_three max_four min_four   -- for this text's walks alone
set_option linter.unusedVariables false
set_option linter.unusedSimpArgs false

def borK13 {α : Type} (w0 : World) (d : Kd α) : Kd α where
  sz := d.sz
  E := d.E
  K := fun _ x cs => d.K w0 x cs
  M := fun _ _ _ x cs => d.K w0 x cs
  K_len := fun h => d.K_len h
  K_one := fun h => d.K_one h
  K_below := fun _ h => h
  K_of_M := fun h => h
  M_mono := fun _ h => h
  M_bound := fun h => h
  M_move := fun _ h => h
  M_lower := fun _ h => h
mutual
def sleuthlaw13_TreeCut.j0 : Nat → List (S35) → Int → Int → Bool → Option (Bool)
  | 0, _, _, _, _ => none
  | k + 1, x0, x1, x2, x26 => if x26 = true then (some true) else (if 512 < x0.length then none else (if (IntKind.u64.wrap ((x0.length : Int))) = 0 then (none) else ((tree_Size.f k x0 (wrap64 (Int.tmod (IntKind.u64.wrap (x1)) (IntKind.u64.wrap ((x0.length : Int)))))).bind fun bt303 => ((tree_Size.f k (x0 ++ [(⟨0, (wrap64 (Int.tmod (IntKind.u64.wrap (x2)) (IntKind.u64.wrap ((x0.length : Int))))), [], ⟨#[95]⟩⟩ : S35)]) (wrap64 (Int.tmod (IntKind.u64.wrap (x1)) (IntKind.u64.wrap ((x0.length : Int)))))).bind fun bt305 => (sleuthlaw13_TreeCut.l0 k x0 (wrap64 (Int.tmod (IntKind.u64.wrap (x1)) (IntKind.u64.wrap ((x0.length : Int))))) bt303.1 bt303.2 bt305.1 bt305.2 false (wrap64 (Int.tmod (IntKind.u64.wrap (x2)) (IntKind.u64.wrap ((x0.length : Int))))))))))
def sleuthlaw13_TreeCut.l0 : Nat → List (S35) → Int → Int → Int → Int → Int → Bool → Int → Option (Bool)
  | 0, _, _, _, _, _, _, _, _ => none
  | k + 1, x0, x7, x10, x11, x12, x13, x14, x15 => if x15 ≥ 0 then (if x14 = true then (if 0 ≤ x15 then (if x15 < (x0.length : Int) then (sleuthlaw13_TreeCut.l0 k x0 x7 x10 x11 x12 x13 true ((rd_T35 x0 x15).f1)) else (none)) else (none)) else (if 0 ≤ x15 then (if x15 < (x0.length : Int) then (sleuthlaw13_TreeCut.l0 k x0 x7 x10 x11 x12 x13 (x15 == x7) ((rd_T35 x0 x15).f1)) else (none)) else (none))) else (if x14 = true then ((sleuthlaw0_Num.f x11).bind fun t309 => (if t309 = 0 then ((sleuthlaw0_Num.f x13).bind fun t310 => (if t310 = 0 then (if x12 = (wrap64 (x10 + 1)) then ((sleuthlaw13_some.f).bind fun t311 => (some ((t311.length : Int) == 5))) else (none)) else (none))) else (none))) else ((sleuthlaw0_Num.f x11).bind fun t314 => (if t314 = 0 then ((sleuthlaw0_Num.f x13).bind fun t315 => (if t315 = 0 then (if x12 = x10 then ((sleuthlaw13_some.f).bind fun t316 => (some ((t316.length : Int) == 5))) else (none)) else (none))) else (none))))
end
def sleuthlaw13_TreeCut.f (k : Nat) (l0 : List (S35)) (a1 : Int) (a2 : Int) : Option (Bool) := (sleuthlaw13_awake.f k).bind fun t301 => (if t301 = true then ((sleuthref12_TrailMay.f k l0).bind fun t302 => (if t302 = true then (sleuthlaw13_TreeCut.j0 k l0 a1 a2 ((l0.length : Int) == 512)) else (sleuthlaw13_TreeCut.j0 k l0 a1 a2 true))) else (none))
set_option maxHeartbeats 8000000 in
set_option maxRecDepth 100000 in
theorem sleuthlaw13_TreeCut.calls (k : Nat) (A0 : Option Addr) (c0 : Nat) (l0 : List (S35)) (a1 : Int) (a2 : Int) (r : Bool) (w : World) (hr0 : Kd.C k35 w A0 l0.length l0) (hc0 : l0.length ≤ c0) (h : sleuthlaw13_TreeCut.f k l0 a1 a2 = some r) (hG : GOK w) :
    Calls Tryd.prog 4 #[.slice A0 l0.length c0, .int .i64 a1, .int .i64 a2] w fun e w' => e = .returned (.bool r) ∧ Below w.heap.size w w' := by
  have HR0 := Aside0.mk hr0
  have HC0 := Aside0.mk hc0
  clear hr0 hc0
  have HB := Aside0.mk (Below.refl w.heap.size w)
  have H : ((sleuthlaw13_awake.f k).bind fun t11 => (if t11 = true then ((sleuthref12_TrailMay.f k l0).bind fun t10 => (if t10 = true then (sleuthlaw13_TreeCut.j0 k l0 a1 a2 ((l0.length : Int) == 512)) else (sleuthlaw13_TreeCut.j0 k l0 a1 a2 true))) else (none))) = some r := h
  clear h
  replace H := Option.bind_eq_some_iff.mp H
  obtain ⟨t11, A40, H⟩ := H
  replace H : (if t11 = true then ((sleuthref12_TrailMay.f k l0).bind fun t10 => (if t10 = true then (sleuthlaw13_TreeCut.j0 k l0 a1 a2 ((l0.length : Int) == 512)) else (sleuthlaw13_TreeCut.j0 k l0 a1 a2 true))) else (none)) = some r := H
  have A4 := Aside0.mk A40
  clear A40
  by_cases c5 : t11 = true
  case neg =>
    replace c5 := Bool.eq_false_iff.mpr c5
    subst c5
    have H1 : (none) = some r := by rw [if_neg (show ¬ (false = true) by decide)] at H; exact H
    clear H
    have H := H1
    clear H1
    cases H
  subst c5
  have H1 : ((sleuthref12_TrailMay.f k l0).bind fun t10 => (if t10 = true then (sleuthlaw13_TreeCut.j0 k l0 a1 a2 ((l0.length : Int) == 512)) else (sleuthlaw13_TreeCut.j0 k l0 a1 a2 true))) = some r := by rw [if_pos rfl] at H; exact H
  clear H
  have H := H1
  clear H1
  have HC6 := Aside0.mk H
  clear H
  go_enter Tryd.func4, Tryd.ntmps4
  go_upto_region 3 with (first | (go_at_call 5; (with_reducible refine (sleuthlaw13_awake.calls k  true _ A4.out hG_).mono ?_); rintro e w7 ⟨rfl, hb⟩; have n0_ := Aside0.mk (below_step hB_ hb); clear HB; have HB := n0_; clear n0_; (try clear hb); (try clear hb2); (try clear hk); (try clear hi)))
  repeat (go_quiet (first | (go_at_call 5; (with_reducible refine (sleuthlaw13_awake.calls k  true _ A4.out hG_).mono ?_); rintro e w7 ⟨rfl, hb⟩; have n0_ := Aside0.mk (below_step hB_ hb); clear HB; have HB := n0_; clear n0_; (try clear hb); (try clear hb2); (try clear hk); (try clear hi))); go_upto_region 3 with (first | (go_at_call 5; (with_reducible refine (sleuthlaw13_awake.calls k  true _ A4.out hG_).mono ?_); rintro e w7 ⟨rfl, hb⟩; have n0_ := Aside0.mk (below_step hB_ hb); clear HB; have HB := n0_; clear n0_; (try clear hb); (try clear hb2); (try clear hk); (try clear hi))))
  (try simp only [Act.put, List.setIfInBounds_toArray, List.set_cons_zero, List.set_cons_succ])
  go_cut [26] (fun v2 wc => ∃ (kq : Nat) (x2 : Bool), v2 = .bool x2 ∧ Aside0 (sleuthlaw13_TreeCut.j0 kq l0 a1 a2 x2 = some r) ∧ Aside0 (kq ≤ k) ∧ Aside0 (Below w.heap.size w wc))
  case first =>
    have H := HC6.out
    clear HC6
    replace H := Option.bind_eq_some_iff.mp H
    obtain ⟨t10, A80, H⟩ := H
    replace H : (if t10 = true then (sleuthlaw13_TreeCut.j0 k l0 a1 a2 ((l0.length : Int) == 512)) else (sleuthlaw13_TreeCut.j0 k l0 a1 a2 true)) = some r := H
    have A8 := Aside0.mk A80
    clear A80
    by_cases c9 : t10 = true
    case pos =>
      subst c9
      have H1 : (sleuthlaw13_TreeCut.j0 k l0 a1 a2 ((l0.length : Int) == 512)) = some r := by rw [if_pos rfl] at H; exact H
      clear H
      have H := H1
      clear H1
      have H' := Aside0.mk H
      clear H
      go_wp2_with (first | (go_at_call 9; (with_reducible refine (sleuthref12_TrailMay.calls k _ _ l0 true _ ?s1 ?s2 A8.out).mono ?_); (case s1 => exact cB_ HR0.out); (case s2 => exact HC0.out); rintro e w1 ⟨rfl, hb⟩; have n0_ := Aside0.mk (below_step hB_ hb); clear HB; have HB := n0_; clear n0_; (try clear hb); (try clear hb2); (try clear hk); (try clear hi)))
      repeat (go_quiet (first | (go_at_call 9; (with_reducible refine (sleuthref12_TrailMay.calls k _ _ l0 true _ ?s1 ?s2 A8.out).mono ?_); (case s1 => exact cB_ HR0.out); (case s2 => exact HC0.out); rintro e w1 ⟨rfl, hb⟩; have n0_ := Aside0.mk (below_step hB_ hb); clear HB; have HB := n0_; clear n0_; (try clear hb); (try clear hb2); (try clear hk); (try clear hi))); try go_wp2_with (first | (go_at_call 9; (with_reducible refine (sleuthref12_TrailMay.calls k _ _ l0 true _ ?s1 ?s2 A8.out).mono ?_); (case s1 => exact cB_ HR0.out); (case s2 => exact HC0.out); rintro e w1 ⟨rfl, hb⟩; have n0_ := Aside0.mk (below_step hB_ hb); clear HB; have HB := n0_; clear n0_; (try clear hb); (try clear hb2); (try clear hk); (try clear hi))))
      go_meet
      case rel => exact ⟨_, (((l0.length : Int) == 512)), hW_, H', ⟨by first | omega | exact Nat.le_refl _⟩, ⟨hC_⟩⟩
    replace c9 := Bool.eq_false_iff.mpr c9
    subst c9
    have H1 : (sleuthlaw13_TreeCut.j0 k l0 a1 a2 true) = some r := by rw [if_neg (show ¬ (false = true) by decide)] at H; exact H
    clear H
    have H := H1
    clear H1
    have H' := Aside0.mk H
    clear H
    go_wp2_with (first | (go_at_call 9; (with_reducible refine (sleuthref12_TrailMay.calls k _ _ l0 false _ ?s1 ?s2 A8.out).mono ?_); (case s1 => exact cB_ HR0.out); (case s2 => exact HC0.out); rintro e w2 ⟨rfl, hb⟩; have n0_ := Aside0.mk (below_step hB_ hb); clear HB; have HB := n0_; clear n0_; (try clear hb); (try clear hb2); (try clear hk); (try clear hi)))
    repeat (go_quiet (first | (go_at_call 9; (with_reducible refine (sleuthref12_TrailMay.calls k _ _ l0 false _ ?s1 ?s2 A8.out).mono ?_); (case s1 => exact cB_ HR0.out); (case s2 => exact HC0.out); rintro e w2 ⟨rfl, hb⟩; have n0_ := Aside0.mk (below_step hB_ hb); clear HB; have HB := n0_; clear n0_; (try clear hb); (try clear hb2); (try clear hk); (try clear hi))); try go_wp2_with (first | (go_at_call 9; (with_reducible refine (sleuthref12_TrailMay.calls k _ _ l0 false _ ?s1 ?s2 A8.out).mono ?_); (case s1 => exact cB_ HR0.out); (case s2 => exact HC0.out); rintro e w2 ⟨rfl, hb⟩; have n0_ := Aside0.mk (below_step hB_ hb); clear HB; have HB := n0_; clear n0_; (try clear hb); (try clear hb2); (try clear hk); (try clear hi))))
    go_meet
    case rel => exact ⟨_, (true), hW_, H', ⟨by first | omega | exact Nat.le_refl _⟩, ⟨hC_⟩⟩
  case rest =>
    clear HC6
    try clear p2
    try clear c4
    try clear c5
    try clear c9
    obtain ⟨kq, x2, rfl, HA, HJ5, HB⟩ := hcut
    cases kq with
    | zero => exact absurd HA.out (by simp [sleuthlaw13_TreeCut.j0])
    | succ kj5 =>
      have H := HA.out
      clear HA
      simp only [sleuthlaw13_TreeCut.j0] at H
      by_cases c12 : x2 = true
      case pos =>
        subst c12
        have H1 : (some true) = some r := by rw [if_pos rfl] at H; exact H
        clear H
        have H := H1
        clear H1
        obtain rfl := Option.some.inj H
        go_wp2
        repeat (go_quiet (fail); try go_wp2)
        go_ret
        exact ⟨hV_, hC_⟩
      replace c12 := Bool.eq_false_iff.mpr c12
      subst c12
      have H1 : (if 512 < l0.length then none else (if (IntKind.u64.wrap ((l0.length : Int))) = 0 then (none) else ((tree_Size.f kj5 l0 (wrap64 (Int.tmod (IntKind.u64.wrap (a1)) (IntKind.u64.wrap ((l0.length : Int)))))).bind fun bt303 => ((tree_Size.f kj5 (l0 ++ [(⟨0, (wrap64 (Int.tmod (IntKind.u64.wrap (a2)) (IntKind.u64.wrap ((l0.length : Int))))), [], ⟨#[95]⟩⟩ : S35)]) (wrap64 (Int.tmod (IntKind.u64.wrap (a1)) (IntKind.u64.wrap ((l0.length : Int)))))).bind fun bt305 => (sleuthlaw13_TreeCut.l0 kj5 l0 (wrap64 (Int.tmod (IntKind.u64.wrap (a1)) (IntKind.u64.wrap ((l0.length : Int))))) bt303.1 bt303.2 bt305.1 bt305.2 false (wrap64 (Int.tmod (IntKind.u64.wrap (a2)) (IntKind.u64.wrap ((l0.length : Int)))))))))) = some r := by rw [if_neg (show ¬ (false = true) by decide)] at H; exact H
      clear H
      have H := H1
      clear H1
      by_cases cL : 512 < l0.length
      case pos => rw [if_pos cL] at H; exact absurd H (by simp)
      rw [if_neg cL] at H
      have L0 := Aside0.mk cL
      clear cL
      by_cases c13 : (IntKind.u64.wrap ((l0.length : Int))) = 0
      case pos =>
        rw [if_pos c13] at H
        exact absurd H (by simp)
      rw [if_neg c13] at H
      have c13b0 : ((IntKind.u64.wrap ((l0.length : Int))) == 0) = false := beq_eq_false_iff_ne.mpr c13
      have c13b1 : ((IntKind.u64.wrap ((l0.length : Int))) != 0) = true := bne_iff_ne.mpr c13
      replace H := Option.bind_eq_some_iff.mp H
      obtain ⟨⟨t0, t3⟩, A140, H⟩ := H
      replace H : ((tree_Size.f kj5 (l0 ++ [(⟨0, (wrap64 (Int.tmod (IntKind.u64.wrap (a2)) (IntKind.u64.wrap ((l0.length : Int))))), [], ⟨#[95]⟩⟩ : S35)]) (wrap64 (Int.tmod (IntKind.u64.wrap (a1)) (IntKind.u64.wrap ((l0.length : Int)))))).bind fun bt305 => (sleuthlaw13_TreeCut.l0 kj5 l0 (wrap64 (Int.tmod (IntKind.u64.wrap (a1)) (IntKind.u64.wrap ((l0.length : Int))))) t0 t3 bt305.1 bt305.2 false (wrap64 (Int.tmod (IntKind.u64.wrap (a2)) (IntKind.u64.wrap ((l0.length : Int))))))) = some r := H
      have A14 := Aside0.mk A140
      clear A140
      replace H := Option.bind_eq_some_iff.mp H
      obtain ⟨⟨t1, t2⟩, A150, H⟩ := H
      replace H : (sleuthlaw13_TreeCut.l0 kj5 l0 (wrap64 (Int.tmod (IntKind.u64.wrap (a1)) (IntKind.u64.wrap ((l0.length : Int))))) t0 t3 t1 t2 false (wrap64 (Int.tmod (IntKind.u64.wrap (a2)) (IntKind.u64.wrap ((l0.length : Int)))))) = some r := H
      obtain ⟨yd, hyd⟩ : ∃ y_ : List S35, y_ = l0 ++ [(⟨0, (wrap64 (Int.tmod (IntKind.u64.wrap (a2)) (IntKind.u64.wrap ((l0.length : Int))))), [], ⟨#[95]⟩⟩ : S35)] := ⟨_, rfl⟩
      rw [← hyd] at A150
      have Nyd := Aside0.mk hyd
      clear hyd
      have A15 := Aside0.mk A150
      clear A150
      have H' := Aside0.mk H
      clear H
      go_wp2_with (fail)
      go_quiet (fail)
      go_wp2_with (first | ((with_reducible refine gate_dst (N := 41) rfl ?_); refine Kd.R_lit (borK13 w k35) _ 35 ?hg (N := 41) ?hd (xs := ([] : List S35)) (inner := []) (ok := fun _ => True) (okp := fun _ => True) ?hr ?hp (fun _ hk => hk) trivial (Below.refl _ _) (Nat.le_refl _) (by simp) ?_; (case hd => rfl); (case hg => rfl); (case hr => first | (go_simp; done) | (go_simp; rfl)); (case hp => exact (Reps.none _ _)); intro v3 w5 ho hb hg_ hnew_; clear hg_ hnew_; have n0_ := Aside0.mk (Kd.R_lower ho hS_); have n1_ := Aside0.mk (below_step hB_ hb); clear HB ho hb; have HOa := n0_; have HB := n1_; clear n0_ n1_) | ((with_reducible refine gate_builtin (b := .append) (xs := #[.tmp 41, .tmp 42]) rfl ?_); at_builtin; refine Kd.R_append_rows (borK13 w k35) (Rr := Kd.K k35 w) (w0 := w) w.heap.size rfl (.tmp 41) (.tmp 42) 22 35 (.agg #[(.int .i64 0), (.int .i64 0), (.slice none 0 0), (.string ⟨#[]⟩)]) 56 rfl Tryd.underlying22 info35 rfl (show 0 < 4 by decide) (by omega) v3 ([] : List S35) l0 _ _ _ (fun _ => True) (fun _ => False) rfl rfl ?aO ?aR (fun _ _ h => h) (fun _ h => h.elim) ?aF ?aB ?aS ?aL ?_; (case aR => exact HR0.out.imp_ hB_ (fun _ _ h => h)); (case aB => exact hB_); (case aF => exact (fun _ _ => trivial)); (case aO => exact (hR_ HOa.out)); (case aS => exact hS_); (case aL => have := L0.out; simp only [List.length_nil]; omega); intro v4 w6 ho hb hg hat; rw [List.nil_append] at ho; clear HB HOa; have HB := Aside0.mk hb; have HOb := Aside0.mk ho; clear ho hb hg hat) | ((with_reducible refine gate_dst (N := 47) rfl ?_); refine Kd.R_lit (borK13 w k35) _ 35 ?hg (N := 47) ?hd (xs := [(⟨0, (wrap64 (Int.tmod (IntKind.u64.wrap (a2)) (IntKind.u64.wrap ((l0.length : Int))))), [], ⟨#[95]⟩⟩ : S35)]) (inner := [.int .i64 0, .int .i64 (wrap64 (Int.tmod (IntKind.u64.wrap (a2)) (IntKind.u64.wrap ((l0.length : Int))))), .slice none 0 0, .string ⟨#[95]⟩]) (ok := fun _ => True) (okp := fun _ => True) ?hr ?hp (fun _ hk => hk) trivial (Below.refl _ _) (Nat.le_refl _) (by simp) ?_; (case hd => rfl); (case hg => rfl); (case hr => first | (go_simp; done) | (go_simp; rfl)); (case hp => exact (Reps.c4 (show Kd.M (borK13 w k35) _ _ _ (⟨0, (wrap64 (Int.tmod (IntKind.u64.wrap (a2)) (IntKind.u64.wrap ((l0.length : Int))))), [], ⟨#[95]⟩⟩ : S35) [.int .i64 0, .int .i64 (wrap64 (Int.tmod (IntKind.u64.wrap (a2)) (IntKind.u64.wrap ((l0.length : Int))))), .slice none 0 0, .string ⟨#[95]⟩] from (k35_mk w (⟨0, (wrap64 (Int.tmod (IntKind.u64.wrap (a2)) (IntKind.u64.wrap ((l0.length : Int))))), [], ⟨#[95]⟩⟩ : S35) (Nat.le_refl _) (Kd.C_nil _ _))) (Reps.none _ _))); intro v7 w8 ho hb hg_ hnew_; clear hg_ hnew_; have n0_ := Aside0.mk (Kd.R_elder' (hR_ HOb.out) (Kd.R_base ho) hb); have n1_ := Aside0.mk (Kd.R_lower (Kd.R_new' ho (Kd.R_lt (hR_ HOb.out))) hS_); have n2_ := Aside0.mk (below_step hB_ hb); clear HOb HB ho hb; have HOb := n0_; have HOc := n1_; have HB := n2_; clear n0_ n1_ n2_; obtain ⟨Ac, cc, ec⟩ := Kd.R_slice HOc.out; subst ec) | ((with_reducible refine gate_builtin (b := .append) (xs := #[.tmp 44, .tmp 47]) rfl ?_); at_builtin; refine Kd.R_append_rows (borK13 w k35) (Rr := Kd.K k35 w) (w0 := w) w.heap.size rfl (.tmp 44) (.tmp 47) 22 35 (.agg #[(.int .i64 0), (.int .i64 0), (.slice none 0 0), (.string ⟨#[]⟩)]) 56 rfl Tryd.underlying22 info35 rfl (show 0 < 4 by decide) (by omega) v4 l0 [(⟨0, (wrap64 (Int.tmod (IntKind.u64.wrap (a2)) (IntKind.u64.wrap ((l0.length : Int))))), [], ⟨#[95]⟩⟩ : S35)] _ _ _ (fun k_ => some k_ ≠ (.slice Ac [(⟨0, (wrap64 (Int.tmod (IntKind.u64.wrap (a2)) (IntKind.u64.wrap ((l0.length : Int))))), [], ⟨#[95]⟩⟩ : S35)].length cc : Value).ownBlock) (fun _ => False) rfl rfl ?aO ?aR (fun _ _ h => h) (fun _ h => h.elim) ?aF ?aB ?aS ?aL ?_; (case aR => exact cC_ (Kd.R_reads' HOc.out).2.2); (case aB => exact hB_); (case aF => exact (fun k_ hk => Kd.fresh' (Kd.R_lt (hR_ HOc.out)) k_ hk)); (case aO => exact (by (with_reducible repeat (first | apply Kd.R_alloc | apply Kd.R_drewN | apply Kd.R_drew)); exact Kd.R_mono HOb.out (fun _ hk => hk.2))); (case aS => exact hS_); (case aL => have := L0.out; simp only [List.length_cons, List.length_nil]; omega); intro v8 w9 ho hb hg hat; rw [← Nyd.out] at ho; obtain ⟨Ad, cd, ed⟩ := Kd.R_slice ho; subst ed; have HRd := Aside0.mk (Kd.C_read (dm := (borK13 w k35)) (d := k35) rfl (fun _ _ h_ => Kd.K_below k35 hb h_) (Kd.R_reads' ho).2.2); have HCd := Aside0.mk (Kd.R_reads' ho).2.1; clear HB HOb HOc; have HB := Aside0.mk hb; clear ho hb hg hat) | (go_at_call 6; (with_reducible refine (tree_Size.calls kj5 _ _ l0 (wrap64 (Int.tmod (IntKind.u64.wrap (a1)) (IntKind.u64.wrap ((l0.length : Int))))) t0 t3 _ ?s1 ?s2 A14.out hG_).mono ?_); (case s1 => exact cB_ HR0.out); (case s2 => exact HC0.out); rintro e w16 ⟨rfl, hb⟩; have m0_ := Aside0.mk (Kd.C_below (cC_ HRd.out) hb); clear HRd; have HRd := m0_; clear m0_; have n0_ := Aside0.mk (below_step hB_ hb); clear HB; have HB := n0_; clear n0_; (try clear hb); (try clear hb2); (try clear hk); (try clear hi)) | (go_at_call 6; (with_reducible refine (tree_Size.calls kj5 _ _ yd (wrap64 (Int.tmod (IntKind.u64.wrap (a1)) (IntKind.u64.wrap ((l0.length : Int))))) t1 t2 _ ?s1 ?s2 A15.out hG_).mono ?_); (case s1 => exact cC_ HRd.out); (case s2 => exact HCd.out); rintro e w17 ⟨rfl, hb⟩; have n0_ := Aside0.mk (below_step hB_ hb); clear HB; have HB := n0_; clear n0_; (try clear hb); (try clear hb2); (try clear hk); (try clear hi)))
      go_loopg [14, 15] kj5 (fun kq v5 v6 w' => ∃ (x1 : Bool) (x0 : Int), v5 = .bool x1 ∧ v6 = .int .i64 x0 ∧ Aside0 (sleuthlaw13_TreeCut.l0 kq l0 (wrap64 (Int.tmod (IntKind.u64.wrap (a1)) (IntKind.u64.wrap ((l0.length : Int))))) t0 t3 t1 t2 x1 x0 = some r) ∧ Aside0 (kq ≤ kj5) ∧ Aside0 (Below w.heap.size w w'))
      case atStart => exact ⟨(false), (wrap64 (Int.tmod (IntKind.u64.wrap (a2)) (IntKind.u64.wrap ((l0.length : Int))))), hW_, hW_, H', ⟨Nat.le_refl _⟩, ⟨hC_⟩⟩
      case round =>
        clear H'
        try clear c1
        try clear p2
        try clear c4
        try clear c5
        try clear p6
        try clear c9
        try clear c12
        try clear c13
        try clear c13b0
        try clear c13b1
        try clear p2
        obtain ⟨x1, x0, rfl, rfl, HA, HK2, HB⟩ := hrel
        cases gk with
        | zero => exact absurd HA.out (by simp [sleuthlaw13_TreeCut.l0])
        | succ k2 =>
          have H := HA.out
          clear HA
          simp only [sleuthlaw13_TreeCut.l0] at H
          by_cases c18 : x0 ≥ 0
          case pos =>
            rw [if_pos c18] at H
            have c18b0 : decide (0 ≤ x0) = true := decide_eq_true c18
            clear c18
            by_cases c19 : x1 = true
            case pos =>
              subst c19
              have H1 : (if 0 ≤ x0 then (if x0 < (l0.length : Int) then (sleuthlaw13_TreeCut.l0 k2 l0 (wrap64 (Int.tmod (IntKind.u64.wrap (a1)) (IntKind.u64.wrap ((l0.length : Int))))) t0 t3 t1 t2 true ((rd_T35 l0 x0).f1)) else (none)) else (none)) = some r := by rw [if_pos rfl] at H; exact H
              clear H
              have H := H1
              clear H1
              replace H := ifI_ H; obtain ⟨c20, H⟩ := H
              have c20b0 : decide (0 ≤ x0) = true := decide_eq_true c20
              clear c20
              replace H := ifI_ H; obtain ⟨c21, H⟩ := H
              have c21b0 : decide (x0 < (l0.length : Int)) = true := decide_eq_true c21
              clear c21
              have H' := Aside0.mk H
              clear H
              have p307 : 0 ≤ (x0 : Int) := of_decide_eq_true hA_
              have q307 : x0 < (l0.length : Int) := of_decide_eq_true hA_
              obtain ⟨d0, A307_2, c307_2, e307, h0, h1, h2, h3, hl307_2, hi307_2⟩ := at_T35 HR0.out x0 p307 q307
              cases e307
              replace h0 := cl_ HB.out h0
              replace h1 := cl_ HB.out h1
              replace h2 := cl_ HB.out h2
              replace h3 := cl_ HB.out h3
              have HR307_2 := Aside0.mk hi307_2
              have HC307_2 := Aside0.mk hl307_2
              clear hi307_2 hl307_2
              replace p307 := eq_true p307
              replace q307 := eq_true q307
              go_wp2
              repeat (go_quiet (fail); try go_wp2)
              go_roundg k2
              case measure => have := HJ5.out; have := HK2.out; omega
              case rel => exact ⟨(true), ((rd_T35 l0 x0).f1), hW_, hW_, H', ⟨by have := HJ5.out; have := HK2.out; omega⟩, ⟨hC_⟩⟩
            replace c19 := Bool.eq_false_iff.mpr c19
            subst c19
            have H1 : (if 0 ≤ x0 then (if x0 < (l0.length : Int) then (sleuthlaw13_TreeCut.l0 k2 l0 (wrap64 (Int.tmod (IntKind.u64.wrap (a1)) (IntKind.u64.wrap ((l0.length : Int))))) t0 t3 t1 t2 (x0 == (wrap64 (Int.tmod (IntKind.u64.wrap (a1)) (IntKind.u64.wrap ((l0.length : Int)))))) ((rd_T35 l0 x0).f1)) else (none)) else (none)) = some r := by rw [if_neg (show ¬ (false = true) by decide)] at H; exact H
            clear H
            have H := H1
            clear H1
            replace H := ifI_ H; obtain ⟨c22, H⟩ := H
            have c22b0 : decide (0 ≤ x0) = true := decide_eq_true c22
            clear c22
            replace H := ifI_ H; obtain ⟨c23, H⟩ := H
            have c23b0 : decide (x0 < (l0.length : Int)) = true := decide_eq_true c23
            clear c23
            have H' := Aside0.mk H
            clear H
            have p308 : 0 ≤ (x0 : Int) := of_decide_eq_true hA_
            have q308 : x0 < (l0.length : Int) := of_decide_eq_true hA_
            obtain ⟨d1, A308_2, c308_2, e308, h4, h5, h6, h7, hl308_2, hi308_2⟩ := at_T35 HR0.out x0 p308 q308
            cases e308
            replace h4 := cl_ HB.out h4
            replace h5 := cl_ HB.out h5
            replace h6 := cl_ HB.out h6
            replace h7 := cl_ HB.out h7
            have HR308_2 := Aside0.mk hi308_2
            have HC308_2 := Aside0.mk hl308_2
            clear hi308_2 hl308_2
            replace p308 := eq_true p308
            replace q308 := eq_true q308
            go_wp2
            repeat (go_quiet (fail); try go_wp2)
            go_roundg k2
            case measure => have := HJ5.out; have := HK2.out; omega
            case rel => exact ⟨((x0 == (wrap64 (Int.tmod (IntKind.u64.wrap (a1)) (IntKind.u64.wrap ((l0.length : Int))))))), ((rd_T35 l0 x0).f1), hW_, hW_, H', ⟨by have := HJ5.out; have := HK2.out; omega⟩, ⟨hC_⟩⟩
          rw [if_neg c18] at H
          have c18b0 : decide (0 ≤ x0) = false := decide_eq_false c18
          clear c18
          by_cases c24 : x1 = true
          case neg =>
            replace c24 := Bool.eq_false_iff.mpr c24
            subst c24
            have H1 : ((sleuthlaw0_Num.f t3).bind fun t6 => (if t6 = 0 then ((sleuthlaw0_Num.f t2).bind fun t4 => (if t4 = 0 then (if t1 = t0 then ((sleuthlaw13_some.f).bind fun t8 => (some ((t8.length : Int) == 5))) else (none)) else (none))) else (none))) = some r := by rw [if_neg (show ¬ (false = true) by decide)] at H; exact H
            clear H
            have H := H1
            clear H1
            replace H := Option.bind_eq_some_iff.mp H
            obtain ⟨t6, A330, H⟩ := H
            replace H : (if t6 = 0 then ((sleuthlaw0_Num.f t2).bind fun t4 => (if t4 = 0 then (if t1 = t0 then ((sleuthlaw13_some.f).bind fun t8 => (some ((t8.length : Int) == 5))) else (none)) else (none))) else (none)) = some r := H
            have A33 := Aside0.mk A330
            clear A330
            by_cases c34 : t6 = 0
            case neg =>
              rw [if_neg c34] at H
              have c34b0 : (t6 == 0) = false := beq_eq_false_iff_ne.mpr c34
              have c34b1 : (t6 != 0) = true := bne_iff_ne.mpr c34
              cases H
            rw [if_pos c34] at H
            have c34b0 : (t6 == 0) = true := beq_iff_eq.mpr c34
            have c34b1 : (t6 != 0) = false := bne_eq_false_iff_eq.mpr c34
            clear c34
            replace H := Option.bind_eq_some_iff.mp H
            obtain ⟨t4, A350, H⟩ := H
            replace H : (if t4 = 0 then (if t1 = t0 then ((sleuthlaw13_some.f).bind fun t8 => (some ((t8.length : Int) == 5))) else (none)) else (none)) = some r := H
            have A35 := Aside0.mk A350
            clear A350
            by_cases c36 : t4 = 0
            case neg =>
              rw [if_neg c36] at H
              have c36b0 : (t4 == 0) = false := beq_eq_false_iff_ne.mpr c36
              have c36b1 : (t4 != 0) = true := bne_iff_ne.mpr c36
              cases H
            rw [if_pos c36] at H
            have c36b0 : (t4 == 0) = true := beq_iff_eq.mpr c36
            have c36b1 : (t4 != 0) = false := bne_eq_false_iff_eq.mpr c36
            clear c36
            by_cases c37 : t1 = t0
            case neg =>
              rw [if_neg c37] at H
              have c37b0 : (t1 == t0) = false := beq_eq_false_iff_ne.mpr c37
              have c37b1 : (t1 != t0) = true := bne_iff_ne.mpr c37
              cases H
            rw [if_pos c37] at H
            have c37b0 : (t1 == t0) = true := beq_iff_eq.mpr c37
            have c37b1 : (t1 != t0) = false := bne_eq_false_iff_eq.mpr c37
            clear c37
            replace H := Option.bind_eq_some_iff.mp H
            obtain ⟨t8, A380, H⟩ := H
            replace H : (some ((t8.length : Int) == 5)) = some r := H
            have A38 := Aside0.mk A380
            clear A380
            obtain rfl := Option.some.inj H
            go_wp2_with (first | (go_at_call 8; (with_reducible refine (sleuthlaw0_Num.calls t3 t6 _ A33.out).mono ?_); rintro e w' ⟨rfl, ⟨nd, rfl⟩⟩; (try first | exact ⟨rfl, _, World.drewN_drewN _ _ _⟩ | exact ⟨rfl, _, Eq.trans (World.drewN_drewN _ _ _) (congrArg (World.drewN _) (Nat.add_assoc _ _ _))⟩)) | (go_at_call 8; (with_reducible refine (sleuthlaw0_Num.calls t2 t4 _ A35.out).mono ?_); rintro e w' ⟨rfl, ⟨nd, rfl⟩⟩; (try first | exact ⟨rfl, _, World.drewN_drewN _ _ _⟩ | exact ⟨rfl, _, Eq.trans (World.drewN_drewN _ _ _) (congrArg (World.drewN _) (Nat.add_assoc _ _ _))⟩)) | (go_at_call 10; (with_reducible refine (sleuthlaw13_some.calls  t8 _ A38.out).mono ?_); rintro e w3 ⟨v0, rfl, ho0, hb⟩; have n0_ := Aside0.mk (Kd.N_lower (Kd.N_mono (ok' := fun k_ => True) ho0 (fun k_ hk_ => trivial)) hS_); have n1_ := Aside0.mk (below_step hB_ hb); clear HB; have P0 := n0_; have HB := n1_; clear n0_ n1_; (try clear hb); (try clear hb2); (try clear hk); (try clear hi); (try clear ho0); obtain ⟨a0, o0, e0⟩ := Kd.N_slice P0.out; subst e0))
            repeat (go_quiet (first | (go_at_call 8; (with_reducible refine (sleuthlaw0_Num.calls t3 t6 _ A33.out).mono ?_); rintro e w' ⟨rfl, ⟨nd, rfl⟩⟩; (try first | exact ⟨rfl, _, World.drewN_drewN _ _ _⟩ | exact ⟨rfl, _, Eq.trans (World.drewN_drewN _ _ _) (congrArg (World.drewN _) (Nat.add_assoc _ _ _))⟩)) | (go_at_call 8; (with_reducible refine (sleuthlaw0_Num.calls t2 t4 _ A35.out).mono ?_); rintro e w' ⟨rfl, ⟨nd, rfl⟩⟩; (try first | exact ⟨rfl, _, World.drewN_drewN _ _ _⟩ | exact ⟨rfl, _, Eq.trans (World.drewN_drewN _ _ _) (congrArg (World.drewN _) (Nat.add_assoc _ _ _))⟩)) | (go_at_call 10; (with_reducible refine (sleuthlaw13_some.calls  t8 _ A38.out).mono ?_); rintro e w3 ⟨v0, rfl, ho0, hb⟩; have n0_ := Aside0.mk (Kd.N_lower (Kd.N_mono (ok' := fun k_ => True) ho0 (fun k_ hk_ => trivial)) hS_); have n1_ := Aside0.mk (below_step hB_ hb); clear HB; have P0 := n0_; have HB := n1_; clear n0_ n1_; (try clear hb); (try clear hb2); (try clear hk); (try clear hi); (try clear ho0); obtain ⟨a0, o0, e0⟩ := Kd.N_slice P0.out; subst e0)); try go_wp2_with (first | (go_at_call 8; (with_reducible refine (sleuthlaw0_Num.calls t3 t6 _ A33.out).mono ?_); rintro e w' ⟨rfl, ⟨nd, rfl⟩⟩; (try first | exact ⟨rfl, _, World.drewN_drewN _ _ _⟩ | exact ⟨rfl, _, Eq.trans (World.drewN_drewN _ _ _) (congrArg (World.drewN _) (Nat.add_assoc _ _ _))⟩)) | (go_at_call 8; (with_reducible refine (sleuthlaw0_Num.calls t2 t4 _ A35.out).mono ?_); rintro e w' ⟨rfl, ⟨nd, rfl⟩⟩; (try first | exact ⟨rfl, _, World.drewN_drewN _ _ _⟩ | exact ⟨rfl, _, Eq.trans (World.drewN_drewN _ _ _) (congrArg (World.drewN _) (Nat.add_assoc _ _ _))⟩)) | (go_at_call 10; (with_reducible refine (sleuthlaw13_some.calls  t8 _ A38.out).mono ?_); rintro e w3 ⟨v0, rfl, ho0, hb⟩; have n0_ := Aside0.mk (Kd.N_lower (Kd.N_mono (ok' := fun k_ => True) ho0 (fun k_ hk_ => trivial)) hS_); have n1_ := Aside0.mk (below_step hB_ hb); clear HB; have P0 := n0_; have HB := n1_; clear n0_ n1_; (try clear hb); (try clear hb2); (try clear hk); (try clear hi); (try clear ho0); obtain ⟨a0, o0, e0⟩ := Kd.N_slice P0.out; subst e0)))
            go_ret
            exact ⟨hV_, hC_⟩
          subst c24
          have H1 : ((sleuthlaw0_Num.f t3).bind fun t7 => (if t7 = 0 then ((sleuthlaw0_Num.f t2).bind fun t5 => (if t5 = 0 then (if t1 = (wrap64 (t0 + 1)) then ((sleuthlaw13_some.f).bind fun t9 => (some ((t9.length : Int) == 5))) else (none)) else (none))) else (none))) = some r := by rw [if_pos rfl] at H; exact H
          clear H
          have H := H1
          clear H1
          replace H := Option.bind_eq_some_iff.mp H
          obtain ⟨t7, A250, H⟩ := H
          replace H : (if t7 = 0 then ((sleuthlaw0_Num.f t2).bind fun t5 => (if t5 = 0 then (if t1 = (wrap64 (t0 + 1)) then ((sleuthlaw13_some.f).bind fun t9 => (some ((t9.length : Int) == 5))) else (none)) else (none))) else (none)) = some r := H
          have A25 := Aside0.mk A250
          clear A250
          by_cases c26 : t7 = 0
          case neg =>
            rw [if_neg c26] at H
            have c26b0 : (t7 == 0) = false := beq_eq_false_iff_ne.mpr c26
            have c26b1 : (t7 != 0) = true := bne_iff_ne.mpr c26
            cases H
          rw [if_pos c26] at H
          have c26b0 : (t7 == 0) = true := beq_iff_eq.mpr c26
          have c26b1 : (t7 != 0) = false := bne_eq_false_iff_eq.mpr c26
          clear c26
          replace H := Option.bind_eq_some_iff.mp H
          obtain ⟨t5, A270, H⟩ := H
          replace H : (if t5 = 0 then (if t1 = (wrap64 (t0 + 1)) then ((sleuthlaw13_some.f).bind fun t9 => (some ((t9.length : Int) == 5))) else (none)) else (none)) = some r := H
          have A27 := Aside0.mk A270
          clear A270
          by_cases c28 : t5 = 0
          case neg =>
            rw [if_neg c28] at H
            have c28b0 : (t5 == 0) = false := beq_eq_false_iff_ne.mpr c28
            have c28b1 : (t5 != 0) = true := bne_iff_ne.mpr c28
            cases H
          rw [if_pos c28] at H
          have c28b0 : (t5 == 0) = true := beq_iff_eq.mpr c28
          have c28b1 : (t5 != 0) = false := bne_eq_false_iff_eq.mpr c28
          clear c28
          by_cases c29 : t1 = (wrap64 (t0 + 1))
          case neg =>
            rw [if_neg c29] at H
            have c29b0 : (t1 == (wrap64 (t0 + 1))) = false := beq_eq_false_iff_ne.mpr c29
            have c29b1 : (t1 != (wrap64 (t0 + 1))) = true := bne_iff_ne.mpr c29
            (try (have c29b0w := c29b0; (rw [show wrap64 (t0 + 1) = (t0 + 1) from by unfold wrap64; omega] at c29b0w)))
            (try (have c29b1w := c29b1; (rw [show wrap64 (t0 + 1) = (t0 + 1) from by unfold wrap64; omega] at c29b1w)))
            cases H
          rw [if_pos c29] at H
          have c29b0 : (t1 == (wrap64 (t0 + 1))) = true := beq_iff_eq.mpr c29
          have c29b1 : (t1 != (wrap64 (t0 + 1))) = false := bne_eq_false_iff_eq.mpr c29
          (try (have c29b0w := c29b0; (rw [show wrap64 (t0 + 1) = (t0 + 1) from by unfold wrap64; omega] at c29b0w)))
          (try (have c29b1w := c29b1; (rw [show wrap64 (t0 + 1) = (t0 + 1) from by unfold wrap64; omega] at c29b1w)))
          clear c29
          replace H := Option.bind_eq_some_iff.mp H
          obtain ⟨t9, A300, H⟩ := H
          replace H : (some ((t9.length : Int) == 5)) = some r := H
          have A30 := Aside0.mk A300
          clear A300
          obtain rfl := Option.some.inj H
          go_wp2_with (first | (go_at_call 8; (with_reducible refine (sleuthlaw0_Num.calls t3 t7 _ A25.out).mono ?_); rintro e w' ⟨rfl, ⟨nd, rfl⟩⟩; (try first | exact ⟨rfl, _, World.drewN_drewN _ _ _⟩ | exact ⟨rfl, _, Eq.trans (World.drewN_drewN _ _ _) (congrArg (World.drewN _) (Nat.add_assoc _ _ _))⟩)) | (go_at_call 8; (with_reducible refine (sleuthlaw0_Num.calls t2 t5 _ A27.out).mono ?_); rintro e w' ⟨rfl, ⟨nd, rfl⟩⟩; (try first | exact ⟨rfl, _, World.drewN_drewN _ _ _⟩ | exact ⟨rfl, _, Eq.trans (World.drewN_drewN _ _ _) (congrArg (World.drewN _) (Nat.add_assoc _ _ _))⟩)) | (go_at_call 10; (with_reducible refine (sleuthlaw13_some.calls  t9 _ A30.out).mono ?_); rintro e w4 ⟨v1, rfl, ho0, hb⟩; have n0_ := Aside0.mk (Kd.N_lower (Kd.N_mono (ok' := fun k_ => True) ho0 (fun k_ hk_ => trivial)) hS_); have n1_ := Aside0.mk (below_step hB_ hb); clear HB; have P1 := n0_; have HB := n1_; clear n0_ n1_; (try clear hb); (try clear hb2); (try clear hk); (try clear hi); (try clear ho0); obtain ⟨a3, o1, e1⟩ := Kd.N_slice P1.out; subst e1))
          repeat (go_quiet (first | (go_at_call 8; (with_reducible refine (sleuthlaw0_Num.calls t3 t7 _ A25.out).mono ?_); rintro e w' ⟨rfl, ⟨nd, rfl⟩⟩; (try first | exact ⟨rfl, _, World.drewN_drewN _ _ _⟩ | exact ⟨rfl, _, Eq.trans (World.drewN_drewN _ _ _) (congrArg (World.drewN _) (Nat.add_assoc _ _ _))⟩)) | (go_at_call 8; (with_reducible refine (sleuthlaw0_Num.calls t2 t5 _ A27.out).mono ?_); rintro e w' ⟨rfl, ⟨nd, rfl⟩⟩; (try first | exact ⟨rfl, _, World.drewN_drewN _ _ _⟩ | exact ⟨rfl, _, Eq.trans (World.drewN_drewN _ _ _) (congrArg (World.drewN _) (Nat.add_assoc _ _ _))⟩)) | (go_at_call 10; (with_reducible refine (sleuthlaw13_some.calls  t9 _ A30.out).mono ?_); rintro e w4 ⟨v1, rfl, ho0, hb⟩; have n0_ := Aside0.mk (Kd.N_lower (Kd.N_mono (ok' := fun k_ => True) ho0 (fun k_ hk_ => trivial)) hS_); have n1_ := Aside0.mk (below_step hB_ hb); clear HB; have P1 := n0_; have HB := n1_; clear n0_ n1_; (try clear hb); (try clear hb2); (try clear hk); (try clear hi); (try clear ho0); obtain ⟨a3, o1, e1⟩ := Kd.N_slice P1.out; subst e1)); try go_wp2_with (first | (go_at_call 8; (with_reducible refine (sleuthlaw0_Num.calls t3 t7 _ A25.out).mono ?_); rintro e w' ⟨rfl, ⟨nd, rfl⟩⟩; (try first | exact ⟨rfl, _, World.drewN_drewN _ _ _⟩ | exact ⟨rfl, _, Eq.trans (World.drewN_drewN _ _ _) (congrArg (World.drewN _) (Nat.add_assoc _ _ _))⟩)) | (go_at_call 8; (with_reducible refine (sleuthlaw0_Num.calls t2 t5 _ A27.out).mono ?_); rintro e w' ⟨rfl, ⟨nd, rfl⟩⟩; (try first | exact ⟨rfl, _, World.drewN_drewN _ _ _⟩ | exact ⟨rfl, _, Eq.trans (World.drewN_drewN _ _ _) (congrArg (World.drewN _) (Nat.add_assoc _ _ _))⟩)) | (go_at_call 10; (with_reducible refine (sleuthlaw13_some.calls  t9 _ A30.out).mono ?_); rintro e w4 ⟨v1, rfl, ho0, hb⟩; have n0_ := Aside0.mk (Kd.N_lower (Kd.N_mono (ok' := fun k_ => True) ho0 (fun k_ hk_ => trivial)) hS_); have n1_ := Aside0.mk (below_step hB_ hb); clear HB; have P1 := n0_; have HB := n1_; clear n0_ n1_; (try clear hb); (try clear hb2); (try clear hk); (try clear hi); (try clear ho0); obtain ⟨a3, o1, e1⟩ := Kd.N_slice P1.out; subst e1)))
          go_ret
          exact ⟨hV_, hC_⟩

end Go.Proofs.YtjodjfbhaojhjaaDoor.G
