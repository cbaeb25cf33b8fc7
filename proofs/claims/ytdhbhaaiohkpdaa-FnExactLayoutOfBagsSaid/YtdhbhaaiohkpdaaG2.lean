/- Functions of the program as typed functions, and that the machine runs as they say (part 2). No further condition. -/
import Derived.Test.YtdhbhaaiohkpdaaK3
import Derived.Test.YtdhbhaaiohkpdaaProg
import Derived.Test.YtdhbhaaiohkpdaaChecked
import Derived.KernelRfl
import Derived.Test.YtdhbhaaiohkpdaaG1
set_option linter.unusedVariables false
set_option linter.unusedSimpArgs false
/- Functions of the program, as typed functions, and that the machine runs as they say. -/
namespace Go.Zq
open Go.Proofs
/- slices.IndexFunc[[][]int,[]int] -/
def A152s1_5 : AC := (.cond (.t 16) (.seq (.reg [] [(jm 17 5), (jm 4 17)] []) .ret) .skip)
def A152s1_4 : AC := (.seq (.reg [] [(jm 11 1), (jm 12 0), (jm 13 5), ((jv 14 (.idx (.t 12) (.t 13) 1))), ((jv 15 (.load .p (.t 14)))), (.mk (some 16) none false (.call (.t 11) [(.t 15)]))] []) A152s1_5)
def A152s1_6 : AC := (.reg [] [((jv 18 (.bin .add (.t 8) (jn 1)))), (jm 8 18)] [])
def A152s1_3 : AC := (.seq (.block 1 (.seq (.reg [] [(jm 10 8), (jm 5 10)] []) A152s1_4)) A152s1_6)
def A152s1_2 : AC := (.seq (.cond (.t 9) .skip (.exit 0)) A152s1_3)
def A152s1_1 : AC := (.seq (.reg [] [((jv 9 (.bin .lss (.t 8) (.t 7))))] []) A152s1_2)
def A152s1_7 : AC := (.seq (.reg [] [((jv 4 (.mov (jn (-1)))))] []) .ret)
def A152s1_9 : AC := (.block 0 (.loop A152s1_1))
def A152s1_8 : AC := (.seq (.seq (.reg [] [(jm 6 0), ((jv 7 (.len (.t 6)))), ((jv 8 (.mov (jn 0))))] []) A152s1_9) A152s1_7)
def A152s1 : AC := (.seq (.reg [] [((jv 4 (.mov (jn 0))))] []) A152s1_8)
def an152s1 : List An := []
theorem c152s1 : cC Try.prog Try.f152.ntmps an152s1 (Try.f152.body.getD .skip) = some A152s1 := by kernel_rfl
structure H152s1 (D : Den) (σ : Sig) (F : Nat) : Prop where
  c134 : ∀ (x0 : (List Int)) (x1 : (Rf (Int × (List (Int × Int))))) r, i_isPathDecomposition_1 F x0 x1 = some r → D 134 [Enc.enc x0, Arg.arg x1] = some (Enc.enc (r : Bool))
  g134 : σ 134 = some (0, false)
abbrev R152s1 (r : Int) : (Nat → V) → Prop := RR Try.prog [.tmp 4] 0 false (Enc.enc (r : Int))
section
variable {D : Den} {σ : Sig} {F : Nat} {r : Int}
def slices_IndexFunc_int_int_of_i_isPathDecomposition_1_l1 (F : Nat) (x_1 : (List (List Int))) (x_2 : (Cl 134 Unit ((Rf (Int × (List (Int × Int)))) × Unit)))  : Nat → Int → Option Int
  | 0, _ => none
  | k + 1, x_5 =>
    bif decide (x_5 < (x_1.length : Int)) then
      (idx x_1 x_5).bind fun e_8 =>
      (i_isPathDecomposition_1 F e_8 x_2.env.1).bind fun r_9 =>
      bif r_9 then
        some x_5
      else
        (slices_IndexFunc_int_int_of_i_isPathDecomposition_1_l1 F x_1 x_2 k) (w64 (x_5 + 1))
    else
      some (-1)
theorem t_f152s1_l1 (H : H152s1 D σ F) (x_1 : (List (List Int))) (x_2 : (Cl 134 Unit ((Rf (Int × (List (Int × Int)))) × Unit)))  : ∀ (k : Nat) (x_5 : Int) (s : Nat → V), Facts [(0, (Enc.enc (x_1 : List (List Int)))), (1, (.fn 134 [] [(.ref .sh 0 [] (.agg [(ji x_2.env.1.v.1), (Enc.enc (x_2.env.1.v.2 : List (Int × Int)))]))])), (4, (ji 0)), (7, (ji (x_1.length : Int))), (8, (ji x_5))] s → slices_IndexFunc_int_int_of_i_isPathDecomposition_1_l1 F x_1 x_2 k x_5 = some r → Run D σ (R152s1 r) (.run A152s1_1 [.lp A152s1_1, .bk 0, .sq A152s1_7]) s := by
  intro k
  induction k with
  | zero => intro x_5 s _ h; exact nomatch (h : (none : Option _) = some r)
  | succ k ih =>
    intro x_5 s hs h
    rw [slices_IndexFunc_int_int_of_i_isPathDecomposition_1_l1] at h
    obtain ⟨h0, h1, h4, h7, h8⟩ := hs
    refine .seq (rg (g2 8 7 (jb (decide (x_5 < (x_1.length : Int)))) h8 h7 fun h9 => ?_))
    refine gq (.nsq (.seq (run_cond (t := decide (x_5 < (x_1.length : Int))) h9 h (fun h => ?_) (fun h => ?_))))
    · refine .skip (.nsq (.seq (.block (.seq (rg (gm h8 fun h10 => gm h10 fun h5 => gq (.nsq (.seq (rg (gm h1 fun h11 => gm h0 fun h12 => gm h5 fun h13 => ?_))))))))))
      obtain ⟨e_8, E_e_8, h⟩ := bind_some h
      refine gv (.ref .sh 0 [] (eL e_8)) (ev_idx (t := .sh) (lo := 0) (xs := x_1) h12 h13 E_e_8 rfl rfl) fun h14 => ?_
      refine g1 14 (eL e_8) h14 fun h15 => ?_
      obtain ⟨r_9, E_r_9, h⟩ := bind_some h
      refine g_callF (m := 0) (al := false) (r := (Enc.enc (r_9 : Bool))) (fs := []) (env := [(.ref .sh 0 [] (.agg [(ji x_2.env.1.v.1), (Enc.enc (x_2.env.1.v.2 : List (Int × Int)))]))]) (us := []) (ws := [Arg.arg (x_2.env.1 : (Rf (Int × (List (Int × Int)))))]) h11 erases_nil (erases_cons (erase_ref (Enc.erase_enc (x_2.env.1.v : (Int × (List (Int × Int)))))) erases_nil) rfl [Enc.enc (e_8 : (List Int))] (ta_cons (v := (eL e_8)) h15 rfl (Enc.erase_enc (e_8 : (List Int))) ta_nil) (H.c134 _ _ _ E_r_9) H.g134 rfl rfl rfl rfl ?_
      refine gq (.nsq (run_cond (t := r_9) rfl h (fun h => ?_) (fun h => ?_)))
      · refine .seq (rg (gm h5 fun h17 => gm h17 fun h4 => gq (.nsq (.ret ?_))))
        have hr := Option.some.inj h
        subst hr
        exact rrA (res_tmp h4) rfl
      refine .skip (.nbk (.nsq (rg (g1 8 (ji (w64 (x_5 + 1))) h8 fun h18 => ?_))))
      refine gm h18 fun h8 => gq (.nlp ?_)
      exact ih (w64 (x_5 + 1)) _ ⟨h0, h1, h4, h7, h8⟩ h
    refine .exit (.esq (.elp (.ebk (.nsq (.seq (rg (g0 (ji (-1)) fun h4 => ?_)))))))
    refine gq (.nsq (.ret ?_))
    have hr := Option.some.inj h
    subst hr
    exact rrA (res_tmp h4) rfl
def slices_IndexFunc_int_int_of_i_isPathDecomposition_1 (F : Nat) (x_1 : (List (List Int))) (x_2 : (Cl 134 Unit ((Rf (Int × (List (Int × Int)))) × Unit))) : Option Int :=
  slices_IndexFunc_int_int_of_i_isPathDecomposition_1_l1 F x_1 x_2 F 0
theorem t152s1 (H : H152s1 D σ F) (x_1 : (List (List Int))) (x_2 : (Cl 134 Unit ((Rf (Int × (List (Int × Int)))) × Unit))) (s : Nat → V) (hs : Facts [(0, (Enc.enc (x_1 : List (List Int)))), (1, (.fn 134 [] [(.ref .sh 0 [] (.agg [(ji x_2.env.1.v.1), (Enc.enc (x_2.env.1.v.2 : List (Int × Int)))]))]))] s) (h : slices_IndexFunc_int_int_of_i_isPathDecomposition_1 F x_1 x_2 = some r) : Run D σ (R152s1 r) (.run A152s1 []) s := by
  unfold slices_IndexFunc_int_int_of_i_isPathDecomposition_1 at h
  obtain ⟨h0, h1⟩ := hs
  refine .seq (rg (g0 (ji 0) fun h4 => gq (.nsq (.seq (.seq (rg (gm h0 fun h6 => gv (ji (x_1.length : Int)) (ev_len (xs := x_1) h6) fun h7 => ?_)))))))
  refine g0 (ji 0) fun h8 => gq (.nsq (.block (.loop ?_)))
  exact t_f152s1_l1 H x_1 x_2 F 0 _ ⟨h0, h1, h4, h7, h8⟩ h
end
def e152s1 (F : Nat) : Ent := ent 152 (fun (x : ((List (List Int)) × (Cl 134 Unit ((Rf (Int × (List (Int × Int)))) × Unit)) × Unit)) => slices_IndexFunc_int_int_of_i_isPathDecomposition_1 F x.1 x.2.1) (fun (r : Int) => (Enc.enc (r : Int))) 0 false [(1, 134)]
theorem p152s1 {F : Nat} {x0 : (List (List Int))} {x1 : (Cl 134 Unit ((Rf (Int × (List (Int × Int)))) × Unit))} {r : Int} (h : slices_IndexFunc_int_int_of_i_isPathDecomposition_1 F x0 x1 = some r) : (e152s1 F).den [Enc.enc x0, Arg.arg x1] = some (Enc.enc (r : Int)) := ent_put (x0, x1, ()) h
theorem o152s1 {D : Den} {σ : Sig} {F : Nat} (hF : Fits2 Try.prog D σ) (H : H152s1 D σ F) : (e152s1 F).Ok Try.prog := by
  refine ok_of (f := 152) (show unk 152 = 152 from rfl) (fun args r h => ?_) ⟨Try.f152, Try.func152, rfl, rfl⟩
  obtain ⟨⟨x0, x1, _⟩, y, rfl, hy, rfl⟩ := da_open h
  exact contract_run hF (by kernel_rfl) Try.func152 rfl c152s1 (show 2 ≤ Try.f152.ntmps by decide) (t152s1 H x0 x1 _ ⟨rfl, rfl⟩ hy)
/- slices.ContainsFunc[[][]int,[]int] -/
def A91s1_1 : AC := (.seq (.reg [] [(jm 5 0), (jm 6 1), (.mk (some 7) none false (.call (.k (.fn 152 [] [])) [(.t 5), (.t 6)])), ((jv 8 (.bin .geq (.t 7) (jn 0)))), (jm 4 8)] []) .ret)
def A91s1 : AC := (.seq (.reg [] [((jv 4 (.mov (.k (.bool false)))))] []) A91s1_1)
def an91s1 : List An := []
theorem c91s1 : cC Try.prog Try.f91.ntmps an91s1 (Try.f91.body.getD .skip) = some A91s1 := by kernel_rfl
structure H91s1 (D : Den) (σ : Sig) (F : Nat) : Prop where
  c152s1 : ∀ (x0 : (List (List Int))) (x1 : (Cl 134 Unit ((Rf (Int × (List (Int × Int)))) × Unit))) r, slices_IndexFunc_int_int_of_i_isPathDecomposition_1 F x0 x1 = some r → D 152 [Enc.enc x0, Arg.arg x1] = some (Enc.enc (r : Int))
  g152s1 : σ 152 = some (0, false)
abbrev R91s1 (r : Bool) : (Nat → V) → Prop := RR Try.prog [.tmp 4] 0 false (Enc.enc (r : Bool))
section
variable {D : Den} {σ : Sig} {F : Nat} {r : Bool}
def slices_ContainsFunc_int_int_of_i_isPathDecomposition_1 (F : Nat) (x_1 : (List (List Int))) (x_2 : (Cl 134 Unit ((Rf (Int × (List (Int × Int)))) × Unit))) : Option Bool :=
  (slices_IndexFunc_int_int_of_i_isPathDecomposition_1 F x_1 x_2).bind fun r_3 =>
  some (decide (r_3 ≥ 0))
theorem t91s1 (H : H91s1 D σ F) (x_1 : (List (List Int))) (x_2 : (Cl 134 Unit ((Rf (Int × (List (Int × Int)))) × Unit))) (s : Nat → V) (hs : Facts [(0, (Enc.enc (x_1 : List (List Int)))), (1, (.fn 134 [] [(.ref .sh 0 [] (.agg [(ji x_2.env.1.v.1), (Enc.enc (x_2.env.1.v.2 : List (Int × Int)))]))]))] s) (h : slices_ContainsFunc_int_int_of_i_isPathDecomposition_1 F x_1 x_2 = some r) : Run D σ (R91s1 r) (.run A91s1 []) s := by
  unfold slices_ContainsFunc_int_int_of_i_isPathDecomposition_1 at h
  obtain ⟨h0, h1⟩ := hs
  refine .seq (rg (g0 (jb false) fun h4 => ?_))
  refine gq (.nsq (.seq (rg (gm h0 fun h5 => gm h1 fun h6 => ?_))))
  obtain ⟨r_3, E_r_3, h⟩ := bind_some h
  refine g_call (m := 0) (al := false) (r := (Enc.enc (r_3 : Int))) [Enc.enc (x_1 : (List (List Int))), Arg.arg (x_2 : (Cl 134 Unit ((Rf (Int × (List (Int × Int)))) × Unit)))] (ta_cons (v := (Enc.enc (x_1 : List (List Int)))) h5 rfl (Enc.erase_enc (x_1 : (List (List Int)))) (ta_cons (v := (.fn 134 [] [(.ref .sh 0 [] (.agg [(ji x_2.env.1.v.1), (Enc.enc (x_2.env.1.v.2 : List (Int × Int)))]))])) h6 rfl (erase_fn erases_nil (erases_cons (erase_ref (Enc.erase_enc (x_2.env.1.v : (Int × (List (Int × Int)))))) erases_nil)) ta_nil)) (H.c152s1 _ _ _ E_r_3) H.g152s1 rfl rfl rfl rfl ?_
  refine g1 7 (jb (decide (r_3 ≥ 0))) (rfl : (_ : V) = (ji r_3)) fun h8 => ?_
  refine gm h8 fun h4 => gq (.nsq (.ret ?_))
  have hr := Option.some.inj h
  subst hr
  exact rrA (res_tmp h4) rfl
end
def e91s1 (F : Nat) : Ent := ent 91 (fun (x : ((List (List Int)) × (Cl 134 Unit ((Rf (Int × (List (Int × Int)))) × Unit)) × Unit)) => slices_ContainsFunc_int_int_of_i_isPathDecomposition_1 F x.1 x.2.1) (fun (r : Bool) => (Enc.enc (r : Bool))) 0 false [(1, 134)]
theorem p91s1 {F : Nat} {x0 : (List (List Int))} {x1 : (Cl 134 Unit ((Rf (Int × (List (Int × Int)))) × Unit))} {r : Bool} (h : slices_ContainsFunc_int_int_of_i_isPathDecomposition_1 F x0 x1 = some r) : (e91s1 F).den [Enc.enc x0, Arg.arg x1] = some (Enc.enc (r : Bool)) := ent_put (x0, x1, ()) h
theorem o91s1 {D : Den} {σ : Sig} {F : Nat} (hF : Fits2 Try.prog D σ) (H : H91s1 D σ F) : (e91s1 F).Ok Try.prog := by
  refine ok_of (f := 91) (show unk 91 = 91 from rfl) (fun args r h => ?_) ⟨Try.f91, Try.func91, rfl, rfl⟩
  obtain ⟨⟨x0, x1, _⟩, y, rfl, hy, rfl⟩ := da_open h
  exact contract_run hF (by kernel_rfl) Try.func91 rfl c91s1 (show 2 ≤ Try.f91.ntmps by decide) (t91s1 H x0 x1 _ ⟨rfl, rfl⟩ hy)
/- slices.Index[[]int,int] -/
def A139_5 : AC := (.cond (.t 16) (.seq (.reg [] [(jm 17 5), (jm 4 17)] []) .ret) .skip)
def A139_4 : AC := (.seq (.reg [] [(jm 11 1), (jm 12 0), (jm 13 5), ((jv 14 (.idx (.t 12) (.t 13) 1))), ((jv 15 (.load .s (.t 14)))), ((jv 16 (.bin .eql (.t 11) (.t 15))))] []) A139_5)
def A139_6 : AC := (.reg [] [((jv 18 (.bin .add (.t 8) (jn 1)))), (jm 8 18)] [])
def A139_3 : AC := (.seq (.block 1 (.seq (.reg [] [(jm 10 8), (jm 5 10)] []) A139_4)) A139_6)
def A139_2 : AC := (.seq (.cond (.t 9) .skip (.exit 0)) A139_3)
def A139_1 : AC := (.seq (.reg [] [((jv 9 (.bin .lss (.t 8) (.t 7))))] []) A139_2)
def A139_7 : AC := (.seq (.reg [] [((jv 4 (.mov (jn (-1)))))] []) .ret)
def A139_9 : AC := (.block 0 (.loop A139_1))
def A139_8 : AC := (.seq (.seq (.reg [] [(jm 6 0), ((jv 7 (.len (.t 6)))), ((jv 8 (.mov (jn 0))))] []) A139_9) A139_7)
def A139 : AC := (.seq (.reg [] [((jv 4 (.mov (jn 0))))] []) A139_8)
def an139 : List An := []
theorem c139 : cC Try.prog Try.f139.ntmps an139 (Try.f139.body.getD .skip) = some A139 := by kernel_rfl
structure H139 (D : Den) (σ : Sig) (F : Nat) : Prop where
  mk ::
abbrev R139 (r : Int) : (Nat → V) → Prop := RR Try.prog [.tmp 4] 0 false (Enc.enc (r : Int))
section
variable {D : Den} {σ : Sig} {F : Nat} {r : Int}
def slices_Index_l1 (F : Nat) (x_1 : (List Int)) (x_2 : Int)  : Nat → Int → Option Int
  | 0, _ => none
  | k + 1, x_4 =>
    bif decide (x_4 < (x_1.length : Int)) then
      (idx x_1 x_4).bind fun e_6 =>
      bif (x_2 == e_6) then
        some x_4
      else
        (slices_Index_l1 F x_1 x_2 k) (w64 (x_4 + 1))
    else
      some (-1)
theorem t_f139_l1 (H : H139 D σ F) (x_1 : (List Int)) (x_2 : Int)  : ∀ (k : Nat) (x_4 : Int) (s : Nat → V), Facts [(0, (eL x_1)), (1, (ji x_2)), (4, (ji 0)), (7, (ji (x_1.length : Int))), (8, (ji x_4))] s → slices_Index_l1 F x_1 x_2 k x_4 = some r → Run D σ (R139 r) (.run A139_1 [.lp A139_1, .bk 0, .sq A139_7]) s := by
  intro k
  induction k with
  | zero => intro x_4 s _ h; exact nomatch (h : (none : Option _) = some r)
  | succ k ih =>
    intro x_4 s hs h
    rw [slices_Index_l1] at h
    obtain ⟨h0, h1, h4, h7, h8⟩ := hs
    refine .seq (rg (g2 8 7 (jb (decide (x_4 < (x_1.length : Int)))) h8 h7 fun h9 => ?_))
    refine gq (.nsq (.seq (run_cond (t := decide (x_4 < (x_1.length : Int))) h9 h (fun h => ?_) (fun h => ?_))))
    · refine .skip (.nsq (.seq (.block (.seq (rg (gm h8 fun h10 => gm h10 fun h5 => gq (.nsq (.seq (rg (gm h1 fun h11 => gm h0 fun h12 => gm h5 fun h13 => ?_))))))))))
      obtain ⟨e_6, E_e_6, h⟩ := bind_some h
      refine gv (.ref .sh 0 [] (ji e_6)) (ev_idx (t := .sh) (lo := 0) (xs := x_1) h12 h13 E_e_6 rfl rfl) fun h14 => ?_
      refine g1 14 (ji e_6) h14 fun h15 => ?_
      refine g2 11 15 (jb (x_2 == e_6)) h11 h15 fun h16 => ?_
      refine gq (.nsq (run_cond (t := (x_2 == e_6)) h16 h (fun h => ?_) (fun h => ?_)))
      · refine .seq (rg (gm h5 fun h17 => gm h17 fun h4 => gq (.nsq (.ret ?_))))
        have hr := Option.some.inj h
        subst hr
        exact rrA (res_tmp h4) rfl
      refine .skip (.nbk (.nsq (rg (g1 8 (ji (w64 (x_4 + 1))) h8 fun h18 => ?_))))
      refine gm h18 fun h8 => gq (.nlp ?_)
      exact ih (w64 (x_4 + 1)) _ ⟨h0, h1, h4, h7, h8⟩ h
    refine .exit (.esq (.elp (.ebk (.nsq (.seq (rg (g0 (ji (-1)) fun h4 => ?_)))))))
    refine gq (.nsq (.ret ?_))
    have hr := Option.some.inj h
    subst hr
    exact rrA (res_tmp h4) rfl
def slices_Index (F : Nat) (x_1 : (List Int)) (x_2 : Int) : Option Int :=
  slices_Index_l1 F x_1 x_2 F 0
theorem t139 (H : H139 D σ F) (x_1 : (List Int)) (x_2 : Int) (s : Nat → V) (hs : Facts [(0, (eL x_1)), (1, (ji x_2))] s) (h : slices_Index F x_1 x_2 = some r) : Run D σ (R139 r) (.run A139 []) s := by
  unfold slices_Index at h
  obtain ⟨h0, h1⟩ := hs
  refine .seq (rg (g0 (ji 0) fun h4 => gq (.nsq (.seq (.seq (rg (gm h0 fun h6 => gv (ji (x_1.length : Int)) (ev_len (xs := x_1) h6) fun h7 => ?_)))))))
  refine g0 (ji 0) fun h8 => gq (.nsq (.block (.loop ?_)))
  exact t_f139_l1 H x_1 x_2 F 0 _ ⟨h0, h1, h4, h7, h8⟩ h
end
def e139 (F : Nat) : Ent := ent 139 (fun (x : ((List Int) × Int × Unit)) => slices_Index F x.1 x.2.1) (fun (r : Int) => (Enc.enc (r : Int))) 0 false []
theorem p139 {F : Nat} {x0 : (List Int)} {x1 : Int} {r : Int} (h : slices_Index F x0 x1 = some r) : (e139 F).den [Enc.enc x0, Enc.enc x1] = some (Enc.enc (r : Int)) := ent_put (x0, x1, ()) h
theorem o139 {D : Den} {σ : Sig} {F : Nat} (hF : Fits2 Try.prog D σ) (H : H139 D σ F) : (e139 F).Ok Try.prog := by
  refine ok_of (f := 139) (show unk 139 = 139 from rfl) (fun args r h => ?_) ⟨Try.f139, Try.func139, rfl, rfl⟩
  obtain ⟨⟨x0, x1, _⟩, y, rfl, hy, rfl⟩ := da_open h
  exact contract_run hF (by kernel_rfl) Try.func139 rfl c139 (show 2 ≤ Try.f139.ntmps by decide) (t139 H x0 x1 _ ⟨rfl, rfl⟩ hy)
/- slices.Contains[[]int,int] -/
def A76_1 : AC := (.seq (.reg [] [(jm 5 0), (jm 6 1), (.mk (some 7) none false (.call (.k (.fn 139 [] [])) [(.t 5), (.t 6)])), ((jv 8 (.bin .geq (.t 7) (jn 0)))), (jm 4 8)] []) .ret)
def A76 : AC := (.seq (.reg [] [((jv 4 (.mov (.k (.bool false)))))] []) A76_1)
def an76 : List An := []
theorem c76 : cC Try.prog Try.f76.ntmps an76 (Try.f76.body.getD .skip) = some A76 := by kernel_rfl
structure H76 (D : Den) (σ : Sig) (F : Nat) : Prop where
  c139 : ∀ (x0 : (List Int)) (x1 : Int) r, slices_Index F x0 x1 = some r → D 139 [Enc.enc x0, Enc.enc x1] = some (Enc.enc (r : Int))
  g139 : σ 139 = some (0, false)
abbrev R76 (r : Bool) : (Nat → V) → Prop := RR Try.prog [.tmp 4] 0 false (Enc.enc (r : Bool))
section
variable {D : Den} {σ : Sig} {F : Nat} {r : Bool}
def slices_Contains (F : Nat) (x_1 : (List Int)) (x_2 : Int) : Option Bool :=
  (slices_Index F x_1 x_2).bind fun r_3 =>
  some (decide (r_3 ≥ 0))
theorem t76 (H : H76 D σ F) (x_1 : (List Int)) (x_2 : Int) (s : Nat → V) (hs : Facts [(0, (eL x_1)), (1, (ji x_2))] s) (h : slices_Contains F x_1 x_2 = some r) : Run D σ (R76 r) (.run A76 []) s := by
  unfold slices_Contains at h
  obtain ⟨h0, h1⟩ := hs
  refine .seq (rg (g0 (jb false) fun h4 => ?_))
  refine gq (.nsq (.seq (rg (gm h0 fun h5 => gm h1 fun h6 => ?_))))
  obtain ⟨r_3, E_r_3, h⟩ := bind_some h
  refine g_call (m := 0) (al := false) (r := (Enc.enc (r_3 : Int))) [Enc.enc (x_1 : (List Int)), Enc.enc (x_2 : Int)] (ta_cons (v := (eL x_1)) h5 rfl (Enc.erase_enc (x_1 : (List Int))) (ta_cons (v := (ji x_2)) h6 rfl rfl ta_nil)) (H.c139 _ _ _ E_r_3) H.g139 rfl rfl rfl rfl ?_
  refine g1 7 (jb (decide (r_3 ≥ 0))) (rfl : (_ : V) = (ji r_3)) fun h8 => ?_
  refine gm h8 fun h4 => gq (.nsq (.ret ?_))
  have hr := Option.some.inj h
  subst hr
  exact rrA (res_tmp h4) rfl
end
def e76 (F : Nat) : Ent := ent 76 (fun (x : ((List Int) × Int × Unit)) => slices_Contains F x.1 x.2.1) (fun (r : Bool) => (Enc.enc (r : Bool))) 0 false []
theorem p76 {F : Nat} {x0 : (List Int)} {x1 : Int} {r : Bool} (h : slices_Contains F x0 x1 = some r) : (e76 F).den [Enc.enc x0, Enc.enc x1] = some (Enc.enc (r : Bool)) := ent_put (x0, x1, ()) h
theorem o76 {D : Den} {σ : Sig} {F : Nat} (hF : Fits2 Try.prog D σ) (H : H76 D σ F) : (e76 F).Ok Try.prog := by
  refine ok_of (f := 76) (show unk 76 = 76 from rfl) (fun args r h => ?_) ⟨Try.f76, Try.func76, rfl, rfl⟩
  obtain ⟨⟨x0, x1, _⟩, y, rfl, hy, rfl⟩ := da_open h
  exact contract_run hF (by kernel_rfl) Try.func76 rfl c76 (show 2 ≤ Try.f76.ntmps by decide) (t76 H x0 x1 _ ⟨rfl, rfl⟩ hy)
/- loop.example/g01109/impl.isPathDecomposition$2$1 -/
def A138_1 : AC := (.seq (.reg [] [(jm 4 0), ((jv 5 (.idxA (.t 1) (jn 0) 2 1))), ((jv 6 (.load .s (.t 5)))), (.mk (some 7) none false (.call (.k (.fn 76 [] [])) [(.t 4), (.t 6)])), (jm 8 7), ((jg 9 8 true (.mov (.t 0)))), ((jg 10 8 true (.idxA (.t 1) (jn 1) 2 1))), ((jg 11 8 true (.load .s (.t 10)))), (.mk (some 12) (some (8, true)) false (.call (.k (.fn 76 [] [])) [(.t 9), (.t 11)])), ((jv 13 (.pick (.t 8) (.t 12) (.k (.bool false))))), (jm 3 13)] []) .ret)
def A138 : AC := (.seq (.reg [] [((jv 3 (.mov (.k (.bool false)))))] []) A138_1)
def an138 : List An := []
theorem c138 : cC Try.prog Try.f138.ntmps an138 (Try.f138.body.getD .skip) = some A138 := by kernel_rfl
structure H138 (D : Den) (σ : Sig) (F : Nat) : Prop where
  c76 : ∀ (x0 : (List Int)) (x1 : Int) r, slices_Contains F x0 x1 = some r → D 76 [Enc.enc x0, Enc.enc x1] = some (Enc.enc (r : Bool))
  g76 : σ 76 = some (0, false)
abbrev R138 (r : Bool) : (Nat → V) → Prop := RR Try.prog [.tmp 3] 0 false (Enc.enc (r : Bool))
section
variable {D : Den} {σ : Sig} {F : Nat} {r : Bool}
def i_isPathDecomposition_2_1 (F : Nat) (x_1 : (List Int)) (rf_2 : (Rf (Int × Int))) : Option Bool :=
  (slices_Contains F x_1 rf_2.v.1).bind fun r_3 =>
  bif r_3 then
    (slices_Contains F x_1 rf_2.v.2).bind fun r_4 =>
    some r_4
  else
    some false
theorem t138 (H : H138 D σ F) (x_1 : (List Int)) (rf_2 : (Rf (Int × Int))) (s : Nat → V) (hs : Facts [(0, (eL x_1)), (1, (.ref .sh 0 [] (.agg [(ji rf_2.v.1), (ji rf_2.v.2)])))] s) (h : i_isPathDecomposition_2_1 F x_1 rf_2 = some r) : Run D σ (R138 r) (.run A138 []) s := by
  unfold i_isPathDecomposition_2_1 at h
  obtain ⟨h0, h1⟩ := hs
  refine .seq (rg (g0 (jb false) fun h3 => ?_))
  refine gq (.nsq (.seq (rg (gm h0 fun h4 => g1 1 (.ref .sh 0 [0] (ji rf_2.v.1)) h1 fun h5 => ?_))))
  refine g1 5 (ji rf_2.v.1) h5 fun h6 => ?_
  obtain ⟨r_3, E_r_3, h⟩ := bind_some h
  refine g_call (m := 0) (al := false) (r := (Enc.enc (r_3 : Bool))) [Enc.enc (x_1 : (List Int)), Enc.enc (rf_2.v.1 : Int)] (ta_cons (v := (eL x_1)) h4 rfl (Enc.erase_enc (x_1 : (List Int))) (ta_cons (v := (ji rf_2.v.1)) h6 rfl rfl ta_nil)) (H.c76 _ _ _ E_r_3) H.g76 rfl rfl rfl rfl ?_
  refine gm (rfl : (_ : V) = (jb r_3)) fun h8 => ?_
  refine split_on (c := r_3) h (fun hg5 h => ?_) (fun hg5 h => ?_)
  · refine g_yes (h8.trans (congrArg V.bool hg5)) (gm h0 fun h9 => ?_)
    refine g_yes (h8.trans (congrArg V.bool hg5)) (g1 1 (.ref .sh 0 [1] (ji rf_2.v.2)) h1 fun h10 => ?_)
    refine g_yes (h8.trans (congrArg V.bool hg5)) (g1 10 (ji rf_2.v.2) h10 fun h11 => ?_)
    obtain ⟨r_4, E_r_4, h⟩ := bind_some h
    refine g_yes (h8.trans (congrArg V.bool hg5)) (g_call (m := 0) (al := false) (r := (Enc.enc (r_4 : Bool))) [Enc.enc (x_1 : (List Int)), Enc.enc (rf_2.v.2 : Int)] (ta_cons (v := (eL x_1)) h9 rfl (Enc.erase_enc (x_1 : (List Int))) (ta_cons (v := (ji rf_2.v.2)) h11 rfl rfl ta_nil)) (H.c76 _ _ _ E_r_4) H.g76 rfl rfl rfl rfl ?_)
    refine g2 8 12 (jb r_4) (h8.trans (congrArg V.bool hg5)) (rfl : (_ : V) = (jb r_4)) fun h13 => ?_
    refine gm h13 fun h3 => gq (.nsq (.ret ?_))
    have hr := Option.some.inj h
    subst hr
    exact rrA (res_tmp h3) rfl
  refine g_no (h8.trans (congrArg V.bool hg5)) ?_
  refine g_no (h8.trans (congrArg V.bool hg5)) ?_
  refine g_no (h8.trans (congrArg V.bool hg5)) ?_
  refine g_no (h8.trans (congrArg V.bool hg5)) ?_
  refine g2 8 12 (jb false) (h8.trans (congrArg V.bool hg5)) (rfl : (_ : V) = (.tup [])) fun h13 => ?_
  refine gm h13 fun h3 => gq (.nsq (.ret ?_))
  have hr := Option.some.inj h
  subst hr
  exact rrA (res_tmp h3) rfl
end
def e138 (F : Nat) : Ent := ent 138 (fun (x : ((List Int) × (Rf (Int × Int)) × Unit)) => i_isPathDecomposition_2_1 F x.1 x.2.1) (fun (r : Bool) => (Enc.enc (r : Bool))) 0 false []
theorem p138 {F : Nat} {x0 : (List Int)} {x1 : (Rf (Int × Int))} {r : Bool} (h : i_isPathDecomposition_2_1 F x0 x1 = some r) : (e138 F).den [Enc.enc x0, Arg.arg x1] = some (Enc.enc (r : Bool)) := ent_put (x0, x1, ()) h
theorem o138 {D : Den} {σ : Sig} {F : Nat} (hF : Fits2 Try.prog D σ) (H : H138 D σ F) : (e138 F).Ok Try.prog := by
  refine ok_of (f := 138) (show unk 138 = 138 from rfl) (fun args r h => ?_) ⟨Try.f138, Try.func138, rfl, rfl⟩
  obtain ⟨⟨x0, x1, _⟩, y, rfl, hy, rfl⟩ := da_open h
  exact contract_run hF (by kernel_rfl) Try.func138 rfl c138 (show 2 ≤ Try.f138.ntmps by decide) (t138 H x0 x1 _ ⟨rfl, rfl⟩ hy)
/- slices.IndexFunc[[][]int,[]int] -/
def A152s2_5 : AC := (.cond (.t 16) (.seq (.reg [] [(jm 17 5), (jm 4 17)] []) .ret) .skip)
def A152s2_4 : AC := (.seq (.reg [] [(jm 11 1), (jm 12 0), (jm 13 5), ((jv 14 (.idx (.t 12) (.t 13) 1))), ((jv 15 (.load .p (.t 14)))), (.mk (some 16) none false (.call (.t 11) [(.t 15)]))] []) A152s2_5)
def A152s2_6 : AC := (.reg [] [((jv 18 (.bin .add (.t 8) (jn 1)))), (jm 8 18)] [])
def A152s2_3 : AC := (.seq (.block 1 (.seq (.reg [] [(jm 10 8), (jm 5 10)] []) A152s2_4)) A152s2_6)
def A152s2_2 : AC := (.seq (.cond (.t 9) .skip (.exit 0)) A152s2_3)
def A152s2_1 : AC := (.seq (.reg [] [((jv 9 (.bin .lss (.t 8) (.t 7))))] []) A152s2_2)
def A152s2_7 : AC := (.seq (.reg [] [((jv 4 (.mov (jn (-1)))))] []) .ret)
def A152s2_9 : AC := (.block 0 (.loop A152s2_1))
def A152s2_8 : AC := (.seq (.seq (.reg [] [(jm 6 0), ((jv 7 (.len (.t 6)))), ((jv 8 (.mov (jn 0))))] []) A152s2_9) A152s2_7)
def A152s2 : AC := (.seq (.reg [] [((jv 4 (.mov (jn 0))))] []) A152s2_8)
def an152s2 : List An := []
theorem c152s2 : cC Try.prog Try.f152.ntmps an152s2 (Try.f152.body.getD .skip) = some A152s2 := by kernel_rfl
structure H152s2 (D : Den) (σ : Sig) (F : Nat) : Prop where
  c138 : ∀ (x0 : (List Int)) (x1 : (Rf (Int × Int))) r, i_isPathDecomposition_2_1 F x0 x1 = some r → D 138 [Enc.enc x0, Arg.arg x1] = some (Enc.enc (r : Bool))
  g138 : σ 138 = some (0, false)
abbrev R152s2 (r : Int) : (Nat → V) → Prop := RR Try.prog [.tmp 4] 0 false (Enc.enc (r : Int))
section
variable {D : Den} {σ : Sig} {F : Nat} {r : Int}
def slices_IndexFunc_int_int_of_i_isPathDecomposition_2_1_l1 (F : Nat) (x_1 : (List (List Int))) (x_2 : (Cl 138 Unit ((Rf (Int × Int)) × Unit)))  : Nat → Int → Option Int
  | 0, _ => none
  | k + 1, x_5 =>
    bif decide (x_5 < (x_1.length : Int)) then
      (idx x_1 x_5).bind fun e_8 =>
      (i_isPathDecomposition_2_1 F e_8 x_2.env.1).bind fun r_9 =>
      bif r_9 then
        some x_5
      else
        (slices_IndexFunc_int_int_of_i_isPathDecomposition_2_1_l1 F x_1 x_2 k) (w64 (x_5 + 1))
    else
      some (-1)
theorem t_f152s2_l1 (H : H152s2 D σ F) (x_1 : (List (List Int))) (x_2 : (Cl 138 Unit ((Rf (Int × Int)) × Unit)))  : ∀ (k : Nat) (x_5 : Int) (s : Nat → V), Facts [(0, (Enc.enc (x_1 : List (List Int)))), (1, (.fn 138 [] [(.ref .sh 0 [] (.agg [(ji x_2.env.1.v.1), (ji x_2.env.1.v.2)]))])), (4, (ji 0)), (7, (ji (x_1.length : Int))), (8, (ji x_5))] s → slices_IndexFunc_int_int_of_i_isPathDecomposition_2_1_l1 F x_1 x_2 k x_5 = some r → Run D σ (R152s2 r) (.run A152s2_1 [.lp A152s2_1, .bk 0, .sq A152s2_7]) s := by
  intro k
  induction k with
  | zero => intro x_5 s _ h; exact nomatch (h : (none : Option _) = some r)
  | succ k ih =>
    intro x_5 s hs h
    rw [slices_IndexFunc_int_int_of_i_isPathDecomposition_2_1_l1] at h
    obtain ⟨h0, h1, h4, h7, h8⟩ := hs
    refine .seq (rg (g2 8 7 (jb (decide (x_5 < (x_1.length : Int)))) h8 h7 fun h9 => ?_))
    refine gq (.nsq (.seq (run_cond (t := decide (x_5 < (x_1.length : Int))) h9 h (fun h => ?_) (fun h => ?_))))
    · refine .skip (.nsq (.seq (.block (.seq (rg (gm h8 fun h10 => gm h10 fun h5 => gq (.nsq (.seq (rg (gm h1 fun h11 => gm h0 fun h12 => gm h5 fun h13 => ?_))))))))))
      obtain ⟨e_8, E_e_8, h⟩ := bind_some h
      refine gv (.ref .sh 0 [] (eL e_8)) (ev_idx (t := .sh) (lo := 0) (xs := x_1) h12 h13 E_e_8 rfl rfl) fun h14 => ?_
      refine g1 14 (eL e_8) h14 fun h15 => ?_
      obtain ⟨r_9, E_r_9, h⟩ := bind_some h
      refine g_callF (m := 0) (al := false) (r := (Enc.enc (r_9 : Bool))) (fs := []) (env := [(.ref .sh 0 [] (.agg [(ji x_2.env.1.v.1), (ji x_2.env.1.v.2)]))]) (us := []) (ws := [Arg.arg (x_2.env.1 : (Rf (Int × Int)))]) h11 erases_nil (erases_cons (erase_ref (Enc.erase_enc (x_2.env.1.v : (Int × Int)))) erases_nil) rfl [Enc.enc (e_8 : (List Int))] (ta_cons (v := (eL e_8)) h15 rfl (Enc.erase_enc (e_8 : (List Int))) ta_nil) (H.c138 _ _ _ E_r_9) H.g138 rfl rfl rfl rfl ?_
      refine gq (.nsq (run_cond (t := r_9) rfl h (fun h => ?_) (fun h => ?_)))
      · refine .seq (rg (gm h5 fun h17 => gm h17 fun h4 => gq (.nsq (.ret ?_))))
        have hr := Option.some.inj h
        subst hr
        exact rrA (res_tmp h4) rfl
      refine .skip (.nbk (.nsq (rg (g1 8 (ji (w64 (x_5 + 1))) h8 fun h18 => ?_))))
      refine gm h18 fun h8 => gq (.nlp ?_)
      exact ih (w64 (x_5 + 1)) _ ⟨h0, h1, h4, h7, h8⟩ h
    refine .exit (.esq (.elp (.ebk (.nsq (.seq (rg (g0 (ji (-1)) fun h4 => ?_)))))))
    refine gq (.nsq (.ret ?_))
    have hr := Option.some.inj h
    subst hr
    exact rrA (res_tmp h4) rfl
def slices_IndexFunc_int_int_of_i_isPathDecomposition_2_1 (F : Nat) (x_1 : (List (List Int))) (x_2 : (Cl 138 Unit ((Rf (Int × Int)) × Unit))) : Option Int :=
  slices_IndexFunc_int_int_of_i_isPathDecomposition_2_1_l1 F x_1 x_2 F 0
theorem t152s2 (H : H152s2 D σ F) (x_1 : (List (List Int))) (x_2 : (Cl 138 Unit ((Rf (Int × Int)) × Unit))) (s : Nat → V) (hs : Facts [(0, (Enc.enc (x_1 : List (List Int)))), (1, (.fn 138 [] [(.ref .sh 0 [] (.agg [(ji x_2.env.1.v.1), (ji x_2.env.1.v.2)]))]))] s) (h : slices_IndexFunc_int_int_of_i_isPathDecomposition_2_1 F x_1 x_2 = some r) : Run D σ (R152s2 r) (.run A152s2 []) s := by
  unfold slices_IndexFunc_int_int_of_i_isPathDecomposition_2_1 at h
  obtain ⟨h0, h1⟩ := hs
  refine .seq (rg (g0 (ji 0) fun h4 => gq (.nsq (.seq (.seq (rg (gm h0 fun h6 => gv (ji (x_1.length : Int)) (ev_len (xs := x_1) h6) fun h7 => ?_)))))))
  refine g0 (ji 0) fun h8 => gq (.nsq (.block (.loop ?_)))
  exact t_f152s2_l1 H x_1 x_2 F 0 _ ⟨h0, h1, h4, h7, h8⟩ h
end
def e152s2 (F : Nat) : Ent := ent 152 (fun (x : ((List (List Int)) × (Cl 138 Unit ((Rf (Int × Int)) × Unit)) × Unit)) => slices_IndexFunc_int_int_of_i_isPathDecomposition_2_1 F x.1 x.2.1) (fun (r : Int) => (Enc.enc (r : Int))) 0 false [(1, 138)]
theorem p152s2 {F : Nat} {x0 : (List (List Int))} {x1 : (Cl 138 Unit ((Rf (Int × Int)) × Unit))} {r : Int} (h : slices_IndexFunc_int_int_of_i_isPathDecomposition_2_1 F x0 x1 = some r) : (e152s2 F).den [Enc.enc x0, Arg.arg x1] = some (Enc.enc (r : Int)) := ent_put (x0, x1, ()) h
theorem o152s2 {D : Den} {σ : Sig} {F : Nat} (hF : Fits2 Try.prog D σ) (H : H152s2 D σ F) : (e152s2 F).Ok Try.prog := by
  refine ok_of (f := 152) (show unk 152 = 152 from rfl) (fun args r h => ?_) ⟨Try.f152, Try.func152, rfl, rfl⟩
  obtain ⟨⟨x0, x1, _⟩, y, rfl, hy, rfl⟩ := da_open h
  exact contract_run hF (by kernel_rfl) Try.func152 rfl c152s2 (show 2 ≤ Try.f152.ntmps by decide) (t152s2 H x0 x1 _ ⟨rfl, rfl⟩ hy)
/- slices.ContainsFunc[[][]int,[]int] -/
def A91s2_1 : AC := (.seq (.reg [] [(jm 5 0), (jm 6 1), (.mk (some 7) none false (.call (.k (.fn 152 [] [])) [(.t 5), (.t 6)])), ((jv 8 (.bin .geq (.t 7) (jn 0)))), (jm 4 8)] []) .ret)
def A91s2 : AC := (.seq (.reg [] [((jv 4 (.mov (.k (.bool false)))))] []) A91s2_1)
def an91s2 : List An := []
theorem c91s2 : cC Try.prog Try.f91.ntmps an91s2 (Try.f91.body.getD .skip) = some A91s2 := by kernel_rfl
structure H91s2 (D : Den) (σ : Sig) (F : Nat) : Prop where
  c152s2 : ∀ (x0 : (List (List Int))) (x1 : (Cl 138 Unit ((Rf (Int × Int)) × Unit))) r, slices_IndexFunc_int_int_of_i_isPathDecomposition_2_1 F x0 x1 = some r → D 152 [Enc.enc x0, Arg.arg x1] = some (Enc.enc (r : Int))
  g152s2 : σ 152 = some (0, false)
abbrev R91s2 (r : Bool) : (Nat → V) → Prop := RR Try.prog [.tmp 4] 0 false (Enc.enc (r : Bool))
section
variable {D : Den} {σ : Sig} {F : Nat} {r : Bool}
def slices_ContainsFunc_int_int_of_i_isPathDecomposition_2_1 (F : Nat) (x_1 : (List (List Int))) (x_2 : (Cl 138 Unit ((Rf (Int × Int)) × Unit))) : Option Bool :=
  (slices_IndexFunc_int_int_of_i_isPathDecomposition_2_1 F x_1 x_2).bind fun r_3 =>
  some (decide (r_3 ≥ 0))
theorem t91s2 (H : H91s2 D σ F) (x_1 : (List (List Int))) (x_2 : (Cl 138 Unit ((Rf (Int × Int)) × Unit))) (s : Nat → V) (hs : Facts [(0, (Enc.enc (x_1 : List (List Int)))), (1, (.fn 138 [] [(.ref .sh 0 [] (.agg [(ji x_2.env.1.v.1), (ji x_2.env.1.v.2)]))]))] s) (h : slices_ContainsFunc_int_int_of_i_isPathDecomposition_2_1 F x_1 x_2 = some r) : Run D σ (R91s2 r) (.run A91s2 []) s := by
  unfold slices_ContainsFunc_int_int_of_i_isPathDecomposition_2_1 at h
  obtain ⟨h0, h1⟩ := hs
  refine .seq (rg (g0 (jb false) fun h4 => ?_))
  refine gq (.nsq (.seq (rg (gm h0 fun h5 => gm h1 fun h6 => ?_))))
  obtain ⟨r_3, E_r_3, h⟩ := bind_some h
  refine g_call (m := 0) (al := false) (r := (Enc.enc (r_3 : Int))) [Enc.enc (x_1 : (List (List Int))), Arg.arg (x_2 : (Cl 138 Unit ((Rf (Int × Int)) × Unit)))] (ta_cons (v := (Enc.enc (x_1 : List (List Int)))) h5 rfl (Enc.erase_enc (x_1 : (List (List Int)))) (ta_cons (v := (.fn 138 [] [(.ref .sh 0 [] (.agg [(ji x_2.env.1.v.1), (ji x_2.env.1.v.2)]))])) h6 rfl (erase_fn erases_nil (erases_cons (erase_ref (Enc.erase_enc (x_2.env.1.v : (Int × Int)))) erases_nil)) ta_nil)) (H.c152s2 _ _ _ E_r_3) H.g152s2 rfl rfl rfl rfl ?_
  refine g1 7 (jb (decide (r_3 ≥ 0))) (rfl : (_ : V) = (ji r_3)) fun h8 => ?_
  refine gm h8 fun h4 => gq (.nsq (.ret ?_))
  have hr := Option.some.inj h
  subst hr
  exact rrA (res_tmp h4) rfl
end
def e91s2 (F : Nat) : Ent := ent 91 (fun (x : ((List (List Int)) × (Cl 138 Unit ((Rf (Int × Int)) × Unit)) × Unit)) => slices_ContainsFunc_int_int_of_i_isPathDecomposition_2_1 F x.1 x.2.1) (fun (r : Bool) => (Enc.enc (r : Bool))) 0 false [(1, 138)]
theorem p91s2 {F : Nat} {x0 : (List (List Int))} {x1 : (Cl 138 Unit ((Rf (Int × Int)) × Unit))} {r : Bool} (h : slices_ContainsFunc_int_int_of_i_isPathDecomposition_2_1 F x0 x1 = some r) : (e91s2 F).den [Enc.enc x0, Arg.arg x1] = some (Enc.enc (r : Bool)) := ent_put (x0, x1, ()) h
theorem o91s2 {D : Den} {σ : Sig} {F : Nat} (hF : Fits2 Try.prog D σ) (H : H91s2 D σ F) : (e91s2 F).Ok Try.prog := by
  refine ok_of (f := 91) (show unk 91 = 91 from rfl) (fun args r h => ?_) ⟨Try.f91, Try.func91, rfl, rfl⟩
  obtain ⟨⟨x0, x1, _⟩, y, rfl, hy, rfl⟩ := da_open h
  exact contract_run hF (by kernel_rfl) Try.func91 rfl c91s2 (show 2 ≤ Try.f91.ntmps by decide) (t91s2 H x0 x1 _ ⟨rfl, rfl⟩ hy)
/- loop.example/g01109/impl.isPathDecomposition$2 -/
def A137_1 : AC := (.seq (.reg [] [((jv 4 (.load .p (.t 1)))), ((jv 5 (.fn 138 [] [(.t 2)]))), (.mk (some 6) none false (.call (.k (.fn 91 [] [])) [(.t 4), (.t 5)])), ((jv 7 (.un .not (.t 6)))), (jm 3 7)] []) .ret)
def A137 : AC := (.seq (.reg [.clr [2]] [(.mk (some 2) none false (.box (.t 0))), ((jv 3 (.mov (.k (.bool false)))))] []) A137_1)
def an137 : List An := [{ id := 0, pre := [.clr [2]], ep := [], lin := [], sp := [] }]
theorem c137 : cC Try.prog Try.f137.ntmps an137 (Try.f137.body.getD .skip) = some A137 := by kernel_rfl
structure H137 (D : Den) (σ : Sig) (F : Nat) : Prop where
  c91s2 : ∀ (x0 : (List (List Int))) (x1 : (Cl 138 Unit ((Rf (Int × Int)) × Unit))) r, slices_ContainsFunc_int_int_of_i_isPathDecomposition_2_1 F x0 x1 = some r → D 91 [Enc.enc x0, Arg.arg x1] = some (Enc.enc (r : Bool))
  g91s2 : σ 91 = some (0, false)
abbrev R137 (r : Bool) : (Nat → V) → Prop := RR Try.prog [.tmp 3] 0 false (Enc.enc (r : Bool))
section
variable {D : Den} {σ : Sig} {F : Nat} {r : Bool}
def i_isPathDecomposition_2 (F : Nat) (e_1 : (Int × Int)) (rf_2 : (Rf (List (List Int)))) : Option Bool :=
  (slices_ContainsFunc_int_int_of_i_isPathDecomposition_2_1 F rf_2.v (Cl.mk () ((Rf.mk e_1 : (Rf (Int × Int))), ()) : (Cl 138 Unit ((Rf (Int × Int)) × Unit)))).bind fun r_3 =>
  some (!r_3)
theorem t137 (H : H137 D σ F) (e_1 : (Int × Int)) (rf_2 : (Rf (List (List Int)))) (s : Nat → V) (hs : Facts [(0, (.agg [(ji e_1.1), (ji e_1.2)])), (1, (.ref .sh 0 [] (Enc.enc (rf_2.v : List (List Int)))))] s) (h : i_isPathDecomposition_2 F e_1 rf_2 = some r) : Run D σ (R137 r) (.run A137 []) s := by
  unfold i_isPathDecomposition_2 at h
  obtain ⟨h0, h1⟩ := hs
  refine .seq (run_reg ?_)
  refine e_clr ?_
  refine ez [(0, _), (1, _), (2, _)] ⟨(keep_clear (pk := [2]) h0 rfl (map_agg (maps_cons mi (maps_cons mi maps_nil)))), (keep_clear (pk := [2]) h1 rfl rfl), (gone_clear (pk := [2]) (t := 2) rfl)⟩ ?_
  rintro s ⟨h0, h1, h2⟩
  refine g_box (.agg [(ji e_1.1), (ji e_1.2)]) (rd_of h0 rfl) h2 rfl ?_
  refine g0 (jb false) fun h3 => ?_
  refine gq (.nsq (.seq (rg (g1 1 (Enc.enc (rf_2.v : List (List Int))) h1 fun h4 => ?_))))
  refine g1 2 (.fn 138 [] [(.ref (.bx 2) 0 [] (.agg [(ji e_1.1), (ji e_1.2)]))]) (rfl : (_ : V) = (.ref (.bx 2) 0 [] (.agg [(ji e_1.1), (ji e_1.2)]))) fun h5 => ?_
  obtain ⟨r_3, E_r_3, h⟩ := bind_some h
  refine g_call (m := 0) (al := false) (r := (Enc.enc (r_3 : Bool))) [Enc.enc (rf_2.v : (List (List Int))), Arg.arg ((Cl.mk () ((Rf.mk e_1 : (Rf (Int × Int))), ()) : (Cl 138 Unit ((Rf (Int × Int)) × Unit))) : (Cl 138 Unit ((Rf (Int × Int)) × Unit)))] (ta_cons (v := (Enc.enc (rf_2.v : List (List Int)))) h4 rfl (Enc.erase_enc (rf_2.v : (List (List Int)))) (ta_cons (v := (.fn 138 [] [(.ref (.bx 2) 0 [] (.agg [(ji e_1.1), (ji e_1.2)]))])) h5 rfl (erase_fn erases_nil (erases_cons (erase_ref (Enc.erase_enc (e_1 : (Int × Int)))) erases_nil)) ta_nil)) (H.c91s2 _ _ _ E_r_3) H.g91s2 rfl rfl rfl rfl ?_
  refine g1 6 (jb (!r_3)) (rfl : (_ : V) = (jb r_3)) fun h7 => ?_
  refine gm h7 fun h3 => gq (.nsq (.ret ?_))
  have hr := Option.some.inj h
  subst hr
  exact rrA (res_tmp h3) rfl
end
def e137 (F : Nat) : Ent := ent 137 (fun (x : ((Int × Int) × (Rf (List (List Int))) × Unit)) => i_isPathDecomposition_2 F x.1 x.2.1) (fun (r : Bool) => (Enc.enc (r : Bool))) 0 false []
theorem p137 {F : Nat} {x0 : (Int × Int)} {x1 : (Rf (List (List Int)))} {r : Bool} (h : i_isPathDecomposition_2 F x0 x1 = some r) : (e137 F).den [Enc.enc x0, Arg.arg x1] = some (Enc.enc (r : Bool)) := ent_put (x0, x1, ()) h
theorem o137 {D : Den} {σ : Sig} {F : Nat} (hF : Fits2 Try.prog D σ) (H : H137 D σ F) : (e137 F).Ok Try.prog := by
  refine ok_of (f := 137) (show unk 137 = 137 from rfl) (fun args r h => ?_) ⟨Try.f137, Try.func137, rfl, rfl⟩
  obtain ⟨⟨x0, x1, _⟩, y, rfl, hy, rfl⟩ := da_open h
  exact contract_run hF (by kernel_rfl) Try.func137 rfl c137 (show 2 ≤ Try.f137.ntmps by decide) (t137 H x0 x1 _ ⟨rfl, rfl⟩ hy)
/- slices.IndexFunc[[][2]int,[2]int] -/
def A173s1_5 : AC := (.cond (.t 16) (.seq (.reg [] [(jm 17 5), (jm 4 17)] []) .ret) .skip)
def A173s1_4 : AC := (.seq (.reg [] [(jm 11 1), (jm 12 0), (jm 13 5), ((jv 14 (.idx (.t 12) (.t 13) 2))), ((jv 15 (.load (.ag [.s, .s]) (.t 14)))), (.mk (some 16) none false (.call (.t 11) [(.t 15)]))] []) A173s1_5)
def A173s1_6 : AC := (.reg [] [((jv 18 (.bin .add (.t 8) (jn 1)))), (jm 8 18)] [])
def A173s1_3 : AC := (.seq (.block 1 (.seq (.reg [] [(jm 10 8), (jm 5 10)] []) A173s1_4)) A173s1_6)
def A173s1_2 : AC := (.seq (.cond (.t 9) .skip (.exit 0)) A173s1_3)
def A173s1_1 : AC := (.seq (.reg [] [((jv 9 (.bin .lss (.t 8) (.t 7))))] []) A173s1_2)
def A173s1_7 : AC := (.seq (.reg [] [((jv 4 (.mov (jn (-1)))))] []) .ret)
def A173s1_9 : AC := (.block 0 (.loop A173s1_1))
def A173s1_8 : AC := (.seq (.seq (.reg [] [(jm 6 0), ((jv 7 (.len (.t 6)))), ((jv 8 (.mov (jn 0))))] []) A173s1_9) A173s1_7)
def A173s1 : AC := (.seq (.reg [] [((jv 4 (.mov (jn 0))))] []) A173s1_8)
def an173s1 : List An := []
theorem c173s1 : cC Try.prog Try.f173.ntmps an173s1 (Try.f173.body.getD .skip) = some A173s1 := by kernel_rfl
structure H173s1 (D : Den) (σ : Sig) (F : Nat) : Prop where
  c137 : ∀ (x0 : (Int × Int)) (x1 : (Rf (List (List Int)))) r, i_isPathDecomposition_2 F x0 x1 = some r → D 137 [Enc.enc x0, Arg.arg x1] = some (Enc.enc (r : Bool))
  g137 : σ 137 = some (0, false)
abbrev R173s1 (r : Int) : (Nat → V) → Prop := RR Try.prog [.tmp 4] 0 false (Enc.enc (r : Int))
section
variable {D : Den} {σ : Sig} {F : Nat} {r : Int}
def slices_IndexFunc_2_int_2_int_of_i_isPathDecomposition_2_l1 (F : Nat) (x_1 : (List (Int × Int))) (x_2 : (Cl 137 Unit ((Rf (List (List Int))) × Unit)))  : Nat → Int → Option Int
  | 0, _ => none
  | k + 1, x_5 =>
    bif decide (x_5 < (x_1.length : Int)) then
      (idx x_1 x_5).bind fun e_8 =>
      (i_isPathDecomposition_2 F e_8 x_2.env.1).bind fun r_9 =>
      bif r_9 then
        some x_5
      else
        (slices_IndexFunc_2_int_2_int_of_i_isPathDecomposition_2_l1 F x_1 x_2 k) (w64 (x_5 + 1))
    else
      some (-1)
theorem t_f173s1_l1 (H : H173s1 D σ F) (x_1 : (List (Int × Int))) (x_2 : (Cl 137 Unit ((Rf (List (List Int))) × Unit)))  : ∀ (k : Nat) (x_5 : Int) (s : Nat → V), Facts [(0, (Enc.enc (x_1 : List (Int × Int)))), (1, (.fn 137 [] [(.ref .sh 0 [] (Enc.enc (x_2.env.1.v : List (List Int))))])), (4, (ji 0)), (7, (ji (x_1.length : Int))), (8, (ji x_5))] s → slices_IndexFunc_2_int_2_int_of_i_isPathDecomposition_2_l1 F x_1 x_2 k x_5 = some r → Run D σ (R173s1 r) (.run A173s1_1 [.lp A173s1_1, .bk 0, .sq A173s1_7]) s := by
  intro k
  induction k with
  | zero => intro x_5 s _ h; exact nomatch (h : (none : Option _) = some r)
  | succ k ih =>
    intro x_5 s hs h
    rw [slices_IndexFunc_2_int_2_int_of_i_isPathDecomposition_2_l1] at h
    obtain ⟨h0, h1, h4, h7, h8⟩ := hs
    refine .seq (rg (g2 8 7 (jb (decide (x_5 < (x_1.length : Int)))) h8 h7 fun h9 => ?_))
    refine gq (.nsq (.seq (run_cond (t := decide (x_5 < (x_1.length : Int))) h9 h (fun h => ?_) (fun h => ?_))))
    · refine .skip (.nsq (.seq (.block (.seq (rg (gm h8 fun h10 => gm h10 fun h5 => gq (.nsq (.seq (rg (gm h1 fun h11 => gm h0 fun h12 => gm h5 fun h13 => ?_))))))))))
      obtain ⟨e_8, E_e_8, h⟩ := bind_some h
      refine gv (.ref .sh 0 [] (.agg [(ji e_8.1), (ji e_8.2)])) (ev_idx (t := .sh) (lo := 0) (xs := x_1) h12 h13 E_e_8 rfl rfl) fun h14 => ?_
      refine g1 14 (.agg [(ji e_8.1), (ji e_8.2)]) h14 fun h15 => ?_
      obtain ⟨r_9, E_r_9, h⟩ := bind_some h
      refine g_callF (m := 0) (al := false) (r := (Enc.enc (r_9 : Bool))) (fs := []) (env := [(.ref .sh 0 [] (Enc.enc (x_2.env.1.v : List (List Int))))]) (us := []) (ws := [Arg.arg (x_2.env.1 : (Rf (List (List Int))))]) h11 erases_nil (erases_cons (erase_ref (Enc.erase_enc (x_2.env.1.v : (List (List Int))))) erases_nil) rfl [Enc.enc (e_8 : (Int × Int))] (ta_cons (v := (.agg [(ji e_8.1), (ji e_8.2)])) h15 rfl (Enc.erase_enc (e_8 : (Int × Int))) ta_nil) (H.c137 _ _ _ E_r_9) H.g137 rfl rfl rfl rfl ?_
      refine gq (.nsq (run_cond (t := r_9) rfl h (fun h => ?_) (fun h => ?_)))
      · refine .seq (rg (gm h5 fun h17 => gm h17 fun h4 => gq (.nsq (.ret ?_))))
        have hr := Option.some.inj h
        subst hr
        exact rrA (res_tmp h4) rfl
      refine .skip (.nbk (.nsq (rg (g1 8 (ji (w64 (x_5 + 1))) h8 fun h18 => ?_))))
      refine gm h18 fun h8 => gq (.nlp ?_)
      exact ih (w64 (x_5 + 1)) _ ⟨h0, h1, h4, h7, h8⟩ h
    refine .exit (.esq (.elp (.ebk (.nsq (.seq (rg (g0 (ji (-1)) fun h4 => ?_)))))))
    refine gq (.nsq (.ret ?_))
    have hr := Option.some.inj h
    subst hr
    exact rrA (res_tmp h4) rfl
def slices_IndexFunc_2_int_2_int_of_i_isPathDecomposition_2 (F : Nat) (x_1 : (List (Int × Int))) (x_2 : (Cl 137 Unit ((Rf (List (List Int))) × Unit))) : Option Int :=
  slices_IndexFunc_2_int_2_int_of_i_isPathDecomposition_2_l1 F x_1 x_2 F 0
theorem t173s1 (H : H173s1 D σ F) (x_1 : (List (Int × Int))) (x_2 : (Cl 137 Unit ((Rf (List (List Int))) × Unit))) (s : Nat → V) (hs : Facts [(0, (Enc.enc (x_1 : List (Int × Int)))), (1, (.fn 137 [] [(.ref .sh 0 [] (Enc.enc (x_2.env.1.v : List (List Int))))]))] s) (h : slices_IndexFunc_2_int_2_int_of_i_isPathDecomposition_2 F x_1 x_2 = some r) : Run D σ (R173s1 r) (.run A173s1 []) s := by
  unfold slices_IndexFunc_2_int_2_int_of_i_isPathDecomposition_2 at h
  obtain ⟨h0, h1⟩ := hs
  refine .seq (rg (g0 (ji 0) fun h4 => gq (.nsq (.seq (.seq (rg (gm h0 fun h6 => gv (ji (x_1.length : Int)) (ev_len (xs := x_1) h6) fun h7 => ?_)))))))
  refine g0 (ji 0) fun h8 => gq (.nsq (.block (.loop ?_)))
  exact t_f173s1_l1 H x_1 x_2 F 0 _ ⟨h0, h1, h4, h7, h8⟩ h
end
def e173s1 (F : Nat) : Ent := ent 173 (fun (x : ((List (Int × Int)) × (Cl 137 Unit ((Rf (List (List Int))) × Unit)) × Unit)) => slices_IndexFunc_2_int_2_int_of_i_isPathDecomposition_2 F x.1 x.2.1) (fun (r : Int) => (Enc.enc (r : Int))) 0 false [(1, 137)]
theorem p173s1 {F : Nat} {x0 : (List (Int × Int))} {x1 : (Cl 137 Unit ((Rf (List (List Int))) × Unit))} {r : Int} (h : slices_IndexFunc_2_int_2_int_of_i_isPathDecomposition_2 F x0 x1 = some r) : (e173s1 F).den [Enc.enc x0, Arg.arg x1] = some (Enc.enc (r : Int)) := ent_put (x0, x1, ()) h
theorem o173s1 {D : Den} {σ : Sig} {F : Nat} (hF : Fits2 Try.prog D σ) (H : H173s1 D σ F) : (e173s1 F).Ok Try.prog := by
  refine ok_of (f := 173) (show unk 173 = 173 from rfl) (fun args r h => ?_) ⟨Try.f173, Try.func173, rfl, rfl⟩
  obtain ⟨⟨x0, x1, _⟩, y, rfl, hy, rfl⟩ := da_open h
  exact contract_run hF (by kernel_rfl) Try.func173 rfl c173s1 (show 2 ≤ Try.f173.ntmps by decide) (t173s1 H x0 x1 _ ⟨rfl, rfl⟩ hy)
/- slices.ContainsFunc[[][2]int,[2]int] -/
def A136s1_1 : AC := (.seq (.reg [] [(jm 5 0), (jm 6 1), (.mk (some 7) none false (.call (.k (.fn 173 [] [])) [(.t 5), (.t 6)])), ((jv 8 (.bin .geq (.t 7) (jn 0)))), (jm 4 8)] []) .ret)
def A136s1 : AC := (.seq (.reg [] [((jv 4 (.mov (.k (.bool false)))))] []) A136s1_1)
def an136s1 : List An := []
theorem c136s1 : cC Try.prog Try.f136.ntmps an136s1 (Try.f136.body.getD .skip) = some A136s1 := by kernel_rfl
structure H136s1 (D : Den) (σ : Sig) (F : Nat) : Prop where
  c173s1 : ∀ (x0 : (List (Int × Int))) (x1 : (Cl 137 Unit ((Rf (List (List Int))) × Unit))) r, slices_IndexFunc_2_int_2_int_of_i_isPathDecomposition_2 F x0 x1 = some r → D 173 [Enc.enc x0, Arg.arg x1] = some (Enc.enc (r : Int))
  g173s1 : σ 173 = some (0, false)
abbrev R136s1 (r : Bool) : (Nat → V) → Prop := RR Try.prog [.tmp 4] 0 false (Enc.enc (r : Bool))
section
variable {D : Den} {σ : Sig} {F : Nat} {r : Bool}
def slices_ContainsFunc_2_int_2_int_of_i_isPathDecomposition_2 (F : Nat) (x_1 : (List (Int × Int))) (x_2 : (Cl 137 Unit ((Rf (List (List Int))) × Unit))) : Option Bool :=
  (slices_IndexFunc_2_int_2_int_of_i_isPathDecomposition_2 F x_1 x_2).bind fun r_3 =>
  some (decide (r_3 ≥ 0))
theorem t136s1 (H : H136s1 D σ F) (x_1 : (List (Int × Int))) (x_2 : (Cl 137 Unit ((Rf (List (List Int))) × Unit))) (s : Nat → V) (hs : Facts [(0, (Enc.enc (x_1 : List (Int × Int)))), (1, (.fn 137 [] [(.ref .sh 0 [] (Enc.enc (x_2.env.1.v : List (List Int))))]))] s) (h : slices_ContainsFunc_2_int_2_int_of_i_isPathDecomposition_2 F x_1 x_2 = some r) : Run D σ (R136s1 r) (.run A136s1 []) s := by
  unfold slices_ContainsFunc_2_int_2_int_of_i_isPathDecomposition_2 at h
  obtain ⟨h0, h1⟩ := hs
  refine .seq (rg (g0 (jb false) fun h4 => ?_))
  refine gq (.nsq (.seq (rg (gm h0 fun h5 => gm h1 fun h6 => ?_))))
  obtain ⟨r_3, E_r_3, h⟩ := bind_some h
  refine g_call (m := 0) (al := false) (r := (Enc.enc (r_3 : Int))) [Enc.enc (x_1 : (List (Int × Int))), Arg.arg (x_2 : (Cl 137 Unit ((Rf (List (List Int))) × Unit)))] (ta_cons (v := (Enc.enc (x_1 : List (Int × Int)))) h5 rfl (Enc.erase_enc (x_1 : (List (Int × Int)))) (ta_cons (v := (.fn 137 [] [(.ref .sh 0 [] (Enc.enc (x_2.env.1.v : List (List Int))))])) h6 rfl (erase_fn erases_nil (erases_cons (erase_ref (Enc.erase_enc (x_2.env.1.v : (List (List Int))))) erases_nil)) ta_nil)) (H.c173s1 _ _ _ E_r_3) H.g173s1 rfl rfl rfl rfl ?_
  refine g1 7 (jb (decide (r_3 ≥ 0))) (rfl : (_ : V) = (ji r_3)) fun h8 => ?_
  refine gm h8 fun h4 => gq (.nsq (.ret ?_))
  have hr := Option.some.inj h
  subst hr
  exact rrA (res_tmp h4) rfl
end
def e136s1 (F : Nat) : Ent := ent 136 (fun (x : ((List (Int × Int)) × (Cl 137 Unit ((Rf (List (List Int))) × Unit)) × Unit)) => slices_ContainsFunc_2_int_2_int_of_i_isPathDecomposition_2 F x.1 x.2.1) (fun (r : Bool) => (Enc.enc (r : Bool))) 0 false [(1, 137)]
theorem p136s1 {F : Nat} {x0 : (List (Int × Int))} {x1 : (Cl 137 Unit ((Rf (List (List Int))) × Unit))} {r : Bool} (h : slices_ContainsFunc_2_int_2_int_of_i_isPathDecomposition_2 F x0 x1 = some r) : (e136s1 F).den [Enc.enc x0, Arg.arg x1] = some (Enc.enc (r : Bool)) := ent_put (x0, x1, ()) h
theorem o136s1 {D : Den} {σ : Sig} {F : Nat} (hF : Fits2 Try.prog D σ) (H : H136s1 D σ F) : (e136s1 F).Ok Try.prog := by
  refine ok_of (f := 136) (show unk 136 = 136 from rfl) (fun args r h => ?_) ⟨Try.f136, Try.func136, rfl, rfl⟩
  obtain ⟨⟨x0, x1, _⟩, y, rfl, hy, rfl⟩ := da_open h
  exact contract_run hF (by kernel_rfl) Try.func136 rfl c136s1 (show 2 ≤ Try.f136.ntmps by decide) (t136s1 H x0 x1 _ ⟨rfl, rfl⟩ hy)
/- loop.example/g01109/impl.isPathDecomposition -/
def A75_12 : AC := (.cond (.t 35) (.reg [] [(jm 36 9), (jm 6 36)] []) .skip)
def A75_14 : AC := (.reg [] [(jm 38 8), ((jv 39 (.bin .add (.t 38) (jn 1)))), (jm 8 39)] [])
def A75_13 : AC := (.seq (.reg [] [(jm 37 9), (jm 7 37)] []) A75_14)
def A75_11 : AC := (.cond (.t 33) (.seq (.seq (.reg [] [(jm 34 8), ((jv 35 (.bin .eql (.t 34) (jn 0))))] []) A75_12) A75_13) .skip)
def A75_10 : AC := (.seq (.reg [] [(jm 31 10), (jm 32 5), (.mk (some 33) none false (.call (.k (.fn 76 [] [])) [(.t 31), (.t 32)]))] []) A75_11)
def A75_15 : AC := (.reg [] [((jv 40 (.bin .add (.t 26) (jn 1)))), (jm 26 40)] [])
def A75_9 : AC := (.seq (.block 3 (.seq (.reg [] [(jm 28 26), ((jv 29 (.idx (.t 24) (.t 26) 1))), ((jv 30 (.load .p (.t 29)))), (jm 9 28), (jm 10 30)] []) A75_10)) A75_15)
def A75_8 : AC := (.seq (.cond (.t 27) .skip (.exit 2)) A75_9)
def A75_7 : AC := (.seq (.reg [] [((jv 27 (.bin .lss (.t 26) (.t 25))))] []) A75_8)
def A75_6 : AC := (.block 2 (.loop A75_7))
def A75_17 : AC := (.cond (.t 50) (.seq (.reg [] [((jv 4 (.mov (.k (.bool false)))))] []) .ret) .skip)
def A75_16 : AC := (.seq (.reg [] [(jm 41 8), ((jv 42 (.bin .eql (.t 41) (jn 0)))), (jm 43 42), ((jg 44 43 false (.mov (.t 7)))), ((jg 45 43 false (.mov (.t 6)))), ((jg 46 43 false (.bin .sub (.t 44) (.t 45)))), ((jg 47 43 false (.bin .add (.t 46) (jn 1)))), ((jg 48 43 false (.mov (.t 8)))), ((jg 49 43 false (.bin .neq (.t 47) (.t 48)))), ((jv 50 (.pick (.t 43) (.k (.bool true)) (.t 49))))] []) A75_17)
def A75_5 : AC := (.seq (.seq (.reg [] [((jv 24 (.load .p (.t 3)))), ((jv 25 (.len (.t 24)))), ((jv 26 (.mov (jn 0))))] []) A75_6) A75_16)
def A75_4 : AC := (.seq (.reg [] [((jv 6 (.mov (jn (-1))))), ((jv 7 (.mov (jn (-1))))), ((jv 8 (.mov (jn 0))))] []) A75_5)
def A75_18 : AC := (.reg [] [((jv 51 (.bin .add (.t 21) (jn 1)))), (jm 21 51)] [])
def A75_3 : AC := (.seq (.block 1 (.seq (.reg [] [(jm 23 21), (jm 5 23)] []) A75_4)) A75_18)
def A75_2 : AC := (.seq (.cond (.t 22) .skip (.exit 0)) A75_3)
def A75_1 : AC := (.seq (.reg [] [((jv 22 (.bin .lss (.t 21) (.t 20))))] []) A75_2)
def A75_19 : AC := (.seq (.reg [] [((jv 52 (.fld (.t 2) 1 1))), ((jv 53 (.load .p (.t 52)))), ((jv 54 (.fn 137 [] [(.t 3)]))), (.mk (some 55) none false (.call (.k (.fn 136 [] [])) [(.t 53), (.t 54)])), ((jv 56 (.un .not (.t 55)))), (jm 4 56)] []) .ret)
def A75_20 : AC := (.cond (.t 18) (.seq (.reg [] [((jv 4 (.mov (.k (.bool false)))))] []) .ret) .skip)
def A75_22 : AC := (.block 0 (.loop A75_1))
def A75_21 : AC := (.seq (.seq (.reg [] [((jv 19 (.fld (.t 2) 0 0))), ((jv 20 (.load .s (.t 19)))), ((jv 21 (.mov (jn 0))))] []) A75_22) A75_19)
def A75_23 : AC := (.seq (.seq (.reg [] [((jv 11 (.load .p (.t 3)))), ((jv 12 (.len (.t 11)))), ((jv 13 (.bin .gtr (.t 12) (jn 16)))), (jm 14 13), ((jg 15 14 false (.load .p (.t 3)))), ((jg 16 14 false (.fn 134 [] [(.t 2)]))), (.mk (some 17) (some (14, false)) false (.call (.k (.fn 91 [] [])) [(.t 15), (.t 16)])), ((jv 18 (.pick (.t 14) (.k (.bool true)) (.t 17))))] []) A75_20) A75_21)
def A75 : AC := (.seq (.reg [.clr [2, 3]] [(.mk (some 2) none false (.box (.t 0))), (.mk (some 3) none false (.box (.t 1))), ((jv 4 (.mov (.k (.bool false)))))] []) A75_23)
def an75 : List An := [{ id := 0, pre := [.clr [2, 3]], ep := [], lin := [], sp := [] }]
theorem c75 : cC Try.prog Try.f75.ntmps an75 (Try.f75.body.getD .skip) = some A75 := by kernel_rfl
structure H75 (D : Den) (σ : Sig) (F : Nat) : Prop where
  c91s1 : ∀ (x0 : (List (List Int))) (x1 : (Cl 134 Unit ((Rf (Int × (List (Int × Int)))) × Unit))) r, slices_ContainsFunc_int_int_of_i_isPathDecomposition_1 F x0 x1 = some r → D 91 [Enc.enc x0, Arg.arg x1] = some (Enc.enc (r : Bool))
  g91s1 : σ 91 = some (0, false)
  c76 : ∀ (x0 : (List Int)) (x1 : Int) r, slices_Contains F x0 x1 = some r → D 76 [Enc.enc x0, Enc.enc x1] = some (Enc.enc (r : Bool))
  g76 : σ 76 = some (0, false)
  c136s1 : ∀ (x0 : (List (Int × Int))) (x1 : (Cl 137 Unit ((Rf (List (List Int))) × Unit))) r, slices_ContainsFunc_2_int_2_int_of_i_isPathDecomposition_2 F x0 x1 = some r → D 136 [Enc.enc x0, Arg.arg x1] = some (Enc.enc (r : Bool))
  g136s1 : σ 136 = some (0, false)
abbrev R75 (r : Bool) : (Nat → V) → Prop := RR Try.prog [.tmp 4] 0 false (Enc.enc (r : Bool))
section
variable {D : Den} {σ : Sig} {F : Nat} {r : Bool}
def i_isPathDecomposition_j1 (F : Nat) (x_1 : (Int × (List (Int × Int)))) (x_2 : (List (List Int))) (x_31 : Int) (x_68 : Int) (c1 : Int → Option Bool) (c4 : Int → Int → Int → Int → Option Bool) (x_79 : Int) (x_80 : Int) (x_81 : Int) : Option Bool :=
  c4 x_79 x_80 x_81 (w64 (x_68 + 1))
theorem t_f75_j1 (H : H75 D σ F) (x_1 : (Int × (List (Int × Int)))) (x_2 : (List (List Int))) (x_31 : Int) (x_68 : Int) (c1 : Int → Option Bool) (Hc1 : ∀ (x_31 : Int) (s : Nat → V), Facts [(2, (.ref (.bx 2) 0 [] (.agg [(ji x_1.1), (Enc.enc (x_1.2 : List (Int × Int)))]))), (3, (.ref (.bx 3) 0 [] (Enc.enc (x_2 : List (List Int))))), (4, (jb false)), (20, (ji x_1.1)), (21, (ji x_31))] s → c1 x_31 = some r → Run D σ (R75 r) (.run A75_1 [.lp A75_1, .bk 0, .sq A75_19]) s) (c4 : Int → Int → Int → Int → Option Bool) (Hc4 : ∀ (x_65 : Int) (x_66 : Int) (x_67 : Int) (x_68 : Int) (s : Nat → V), Facts [(2, (.ref (.bx 2) 0 [] (.agg [(ji x_1.1), (Enc.enc (x_1.2 : List (Int × Int)))]))), (3, (.ref (.bx 3) 0 [] (Enc.enc (x_2 : List (List Int))))), (4, (jb false)), (5, (ji x_31)), (6, (ji x_65)), (7, (ji x_66)), (8, (ji x_67)), (20, (ji x_1.1)), (21, (ji x_31)), (24, (Enc.enc (x_2 : List (List Int)))), (25, (ji (x_2.length : Int))), (26, (ji x_68))] s → c4 x_65 x_66 x_67 x_68 = some r → Run D σ (R75 r) (.run A75_7 [.lp A75_7, .bk 2, .sq A75_16, .bk 1, .sq A75_18, .lp A75_1, .bk 0, .sq A75_19]) s) (x_79 : Int) (x_80 : Int) (x_81 : Int) (s : Nat → V) (hs : Facts [(2, (.ref (.bx 2) 0 [] (.agg [(ji x_1.1), (Enc.enc (x_1.2 : List (Int × Int)))]))), (3, (.ref (.bx 3) 0 [] (Enc.enc (x_2 : List (List Int))))), (4, (jb false)), (5, (ji x_31)), (6, (ji x_79)), (7, (ji x_80)), (8, (ji x_81)), (20, (ji x_1.1)), (21, (ji x_31)), (24, (Enc.enc (x_2 : List (List Int)))), (25, (ji (x_2.length : Int))), (26, (ji x_68))] s) (h : i_isPathDecomposition_j1 F x_1 x_2 x_31 x_68 c1 c4 x_79 x_80 x_81 = some r) : Run D σ (R75 r) (.nrm [.bk 3, .sq A75_15, .lp A75_7, .bk 2, .sq A75_16, .bk 1, .sq A75_18, .lp A75_1, .bk 0, .sq A75_19]) s := by
  unfold i_isPathDecomposition_j1 at h
  obtain ⟨h2, h3, h4, h5, h6, h7, h8, h20, h21, h24, h25, h26⟩ := hs
  refine .nbk (.nsq (rg (g1 26 (ji (w64 (x_68 + 1))) h26 fun h40 => ?_)))
  refine gm h40 fun h26 => gq (.nlp ?_)
  exact Hc4 x_79 x_80 x_81 (w64 (x_68 + 1)) _ ⟨h2, h3, h4, h5, h6, h7, h8, h20, h21, h24, h25, h26⟩ h
def i_isPathDecomposition_j2 (F : Nat) (x_1 : (Int × (List (Int × Int)))) (x_2 : (List (List Int))) (x_31 : Int) (x_66 : Int) (x_67 : Int) (x_68 : Int) (c1 : Int → Option Bool) (c4 : Int → Int → Int → Int → Option Bool) (x_82 : Int) : Option Bool :=
  i_isPathDecomposition_j1 F x_1 x_2 x_31 x_68 c1 c4 x_82 x_68 (w64 (x_67 + 1))
theorem t_f75_j2 (H : H75 D σ F) (x_1 : (Int × (List (Int × Int)))) (x_2 : (List (List Int))) (x_31 : Int) (x_66 : Int) (x_67 : Int) (x_68 : Int) (c1 : Int → Option Bool) (Hc1 : ∀ (x_31 : Int) (s : Nat → V), Facts [(2, (.ref (.bx 2) 0 [] (.agg [(ji x_1.1), (Enc.enc (x_1.2 : List (Int × Int)))]))), (3, (.ref (.bx 3) 0 [] (Enc.enc (x_2 : List (List Int))))), (4, (jb false)), (20, (ji x_1.1)), (21, (ji x_31))] s → c1 x_31 = some r → Run D σ (R75 r) (.run A75_1 [.lp A75_1, .bk 0, .sq A75_19]) s) (c4 : Int → Int → Int → Int → Option Bool) (Hc4 : ∀ (x_65 : Int) (x_66 : Int) (x_67 : Int) (x_68 : Int) (s : Nat → V), Facts [(2, (.ref (.bx 2) 0 [] (.agg [(ji x_1.1), (Enc.enc (x_1.2 : List (Int × Int)))]))), (3, (.ref (.bx 3) 0 [] (Enc.enc (x_2 : List (List Int))))), (4, (jb false)), (5, (ji x_31)), (6, (ji x_65)), (7, (ji x_66)), (8, (ji x_67)), (20, (ji x_1.1)), (21, (ji x_31)), (24, (Enc.enc (x_2 : List (List Int)))), (25, (ji (x_2.length : Int))), (26, (ji x_68))] s → c4 x_65 x_66 x_67 x_68 = some r → Run D σ (R75 r) (.run A75_7 [.lp A75_7, .bk 2, .sq A75_16, .bk 1, .sq A75_18, .lp A75_1, .bk 0, .sq A75_19]) s) (x_82 : Int) (s : Nat → V) (hs : Facts [(2, (.ref (.bx 2) 0 [] (.agg [(ji x_1.1), (Enc.enc (x_1.2 : List (Int × Int)))]))), (3, (.ref (.bx 3) 0 [] (Enc.enc (x_2 : List (List Int))))), (4, (jb false)), (5, (ji x_31)), (6, (ji x_82)), (7, (ji x_66)), (8, (ji x_67)), (9, (ji x_68)), (20, (ji x_1.1)), (21, (ji x_31)), (24, (Enc.enc (x_2 : List (List Int)))), (25, (ji (x_2.length : Int))), (26, (ji x_68))] s) (h : i_isPathDecomposition_j2 F x_1 x_2 x_31 x_66 x_67 x_68 c1 c4 x_82 = some r) : Run D σ (R75 r) (.nrm [.sq A75_13, .bk 3, .sq A75_15, .lp A75_7, .bk 2, .sq A75_16, .bk 1, .sq A75_18, .lp A75_1, .bk 0, .sq A75_19]) s := by
  unfold i_isPathDecomposition_j2 at h
  obtain ⟨h2, h3, h4, h5, h6, h7, h8, h9, h20, h21, h24, h25, h26⟩ := hs
  refine .nsq (.seq (rg (gm h9 fun h37 => gm h37 fun h7 => gq (.nsq (rg (gm h8 fun h38 => g1 38 (ji (w64 (x_67 + 1))) h38 fun h39 => ?_))))))
  refine gm h39 fun h8 => gz [(2, _), (3, _), (4, _), (5, _), (6, _), (7, _), (8, _), (20, _), (21, _), (24, _), (25, _), (26, _)] ⟨h2, h3, h4, h5, h6, h7, h8, h20, h21, h24, h25, h26⟩ ?_
  rintro s ⟨h2, h3, h4, h5, h6, h7, h8, h20, h21, h24, h25, h26⟩
  exact t_f75_j1 H x_1 x_2 x_31 x_68 c1 Hc1 c4 Hc4 x_82 x_68 (w64 (x_67 + 1)) _ ⟨h2, h3, h4, h5, h6, h7, h8, h20, h21, h24, h25, h26⟩ h
def i_isPathDecomposition_j3 (F : Nat) (x_1 : (Int × (List (Int × Int)))) (x_2 : (List (List Int))) (x_31 : Int) (c1 : Int → Option Bool) (x_83 : Bool) : Option Bool :=
  bif x_83 then
    some false
  else
    c1 (w64 (x_31 + 1))
theorem t_f75_j3 (H : H75 D σ F) (x_1 : (Int × (List (Int × Int)))) (x_2 : (List (List Int))) (x_31 : Int) (c1 : Int → Option Bool) (Hc1 : ∀ (x_31 : Int) (s : Nat → V), Facts [(2, (.ref (.bx 2) 0 [] (.agg [(ji x_1.1), (Enc.enc (x_1.2 : List (Int × Int)))]))), (3, (.ref (.bx 3) 0 [] (Enc.enc (x_2 : List (List Int))))), (4, (jb false)), (20, (ji x_1.1)), (21, (ji x_31))] s → c1 x_31 = some r → Run D σ (R75 r) (.run A75_1 [.lp A75_1, .bk 0, .sq A75_19]) s) (x_83 : Bool) (s : Nat → V) (hs : Facts [(2, (.ref (.bx 2) 0 [] (.agg [(ji x_1.1), (Enc.enc (x_1.2 : List (Int × Int)))]))), (3, (.ref (.bx 3) 0 [] (Enc.enc (x_2 : List (List Int))))), (4, (jb false)), (20, (ji x_1.1)), (21, (ji x_31)), (50, (jb x_83))] s) (h : i_isPathDecomposition_j3 F x_1 x_2 x_31 c1 x_83 = some r) : Run D σ (R75 r) (.nrm [.sq A75_17, .bk 1, .sq A75_18, .lp A75_1, .bk 0, .sq A75_19]) s := by
  unfold i_isPathDecomposition_j3 at h
  obtain ⟨h2, h3, h4, h20, h21, h50⟩ := hs
  refine .nsq (run_cond (t := x_83) h50 h (fun h => ?_) (fun h => ?_))
  · refine .seq (rg (g0 (jb false) fun h4 => ?_))
    refine gq (.nsq (.ret ?_))
    have hr := Option.some.inj h
    subst hr
    exact rrA (res_tmp h4) rfl
  refine .skip (.nbk (.nsq (rg (g1 21 (ji (w64 (x_31 + 1))) h21 fun h51 => ?_))))
  refine gm h51 fun h21 => gq (.nlp ?_)
  exact Hc1 (w64 (x_31 + 1)) _ ⟨h2, h3, h4, h20, h21⟩ h
def i_isPathDecomposition_l1 (F : Nat) (x_1 : (Int × (List (Int × Int)))) (x_2 : (List (List Int))) (x_31 : Int) (c1 : Int → Option Bool) : Nat → Int → Int → Int → Int → Option Bool
  | 0, _, _, _, _ => none
  | k + 1, x_65, x_66, x_67, x_68 =>
    bif decide (x_68 < (x_2.length : Int)) then
      (idx x_2 x_68).bind fun e_76 =>
      (slices_Contains F e_76 x_31).bind fun r_77 =>
      bif r_77 then
        bif (x_67 == 0) then
          i_isPathDecomposition_j2 F x_1 x_2 x_31 x_66 x_67 x_68 c1 (i_isPathDecomposition_l1 F x_1 x_2 x_31 c1 k) x_68
        else
          i_isPathDecomposition_j2 F x_1 x_2 x_31 x_66 x_67 x_68 c1 (i_isPathDecomposition_l1 F x_1 x_2 x_31 c1 k) x_65
      else
        i_isPathDecomposition_j1 F x_1 x_2 x_31 x_68 c1 (i_isPathDecomposition_l1 F x_1 x_2 x_31 c1 k) x_65 x_66 x_67
    else
      bif (x_67 == 0) then
        i_isPathDecomposition_j3 F x_1 x_2 x_31 c1 true
      else
        i_isPathDecomposition_j3 F x_1 x_2 x_31 c1 ((w64 ((w64 (x_66 - x_65)) + 1)) != x_67)
theorem t_f75_l1 (H : H75 D σ F) (x_1 : (Int × (List (Int × Int)))) (x_2 : (List (List Int))) (x_31 : Int) (c1 : Int → Option Bool) (Hc1 : ∀ (x_31 : Int) (s : Nat → V), Facts [(2, (.ref (.bx 2) 0 [] (.agg [(ji x_1.1), (Enc.enc (x_1.2 : List (Int × Int)))]))), (3, (.ref (.bx 3) 0 [] (Enc.enc (x_2 : List (List Int))))), (4, (jb false)), (20, (ji x_1.1)), (21, (ji x_31))] s → c1 x_31 = some r → Run D σ (R75 r) (.run A75_1 [.lp A75_1, .bk 0, .sq A75_19]) s) : ∀ (k : Nat) (x_65 : Int) (x_66 : Int) (x_67 : Int) (x_68 : Int) (s : Nat → V), Facts [(2, (.ref (.bx 2) 0 [] (.agg [(ji x_1.1), (Enc.enc (x_1.2 : List (Int × Int)))]))), (3, (.ref (.bx 3) 0 [] (Enc.enc (x_2 : List (List Int))))), (4, (jb false)), (5, (ji x_31)), (6, (ji x_65)), (7, (ji x_66)), (8, (ji x_67)), (20, (ji x_1.1)), (21, (ji x_31)), (24, (Enc.enc (x_2 : List (List Int)))), (25, (ji (x_2.length : Int))), (26, (ji x_68))] s → i_isPathDecomposition_l1 F x_1 x_2 x_31 c1 k x_65 x_66 x_67 x_68 = some r → Run D σ (R75 r) (.run A75_7 [.lp A75_7, .bk 2, .sq A75_16, .bk 1, .sq A75_18, .lp A75_1, .bk 0, .sq A75_19]) s := by
  intro k
  induction k with
  | zero => intro x_65 x_66 x_67 x_68 s _ h; exact nomatch (h : (none : Option _) = some r)
  | succ k ih =>
    intro x_65 x_66 x_67 x_68 s hs h
    rw [i_isPathDecomposition_l1] at h
    obtain ⟨h2, h3, h4, h5, h6, h7, h8, h20, h21, h24, h25, h26⟩ := hs
    refine .seq (rg (g2 26 25 (jb (decide (x_68 < (x_2.length : Int)))) h26 h25 fun h27 => ?_))
    refine gq (.nsq (.seq (run_cond (t := decide (x_68 < (x_2.length : Int))) h27 h (fun h => ?_) (fun h => ?_))))
    · refine .skip (.nsq (.seq (.block (.seq (rg (gm h26 fun h28 => ?_))))))
      obtain ⟨e_76, E_e_76, h⟩ := bind_some h
      refine gv (.ref .sh 0 [] (eL e_76)) (ev_idx (t := .sh) (lo := 0) (xs := x_2) h24 h26 E_e_76 rfl rfl) fun h29 => ?_
      refine g1 29 (eL e_76) h29 fun h30 => ?_
      refine gm h28 fun h9 => gm h30 fun h10 => gq (.nsq (.seq (rg (gm h10 fun h31 => gm h5 fun h32 => ?_))))
      obtain ⟨r_77, E_r_77, h⟩ := bind_some h
      refine g_call (m := 0) (al := false) (r := (Enc.enc (r_77 : Bool))) [Enc.enc (e_76 : (List Int)), Enc.enc (x_31 : Int)] (ta_cons (v := (eL e_76)) h31 rfl (Enc.erase_enc (e_76 : (List Int))) (ta_cons (v := (ji x_31)) h32 rfl rfl ta_nil)) (H.c76 _ _ _ E_r_77) H.g76 rfl rfl rfl rfl ?_
      refine gq (.nsq (run_cond (t := r_77) rfl h (fun h => ?_) (fun h => ?_)))
      · refine .seq (.seq (rg (gm h8 fun h34 => g1 34 (jb (x_67 == 0)) h34 fun h35 => ?_)))
        refine gq (.nsq (run_cond (t := (x_67 == 0)) h35 h (fun h => ?_) (fun h => ?_)))
        · refine rg (gm h9 fun h36 => gm h36 fun h6 => gq ?_)
          exact t_f75_j2 H x_1 x_2 x_31 x_66 x_67 x_68 c1 Hc1 (i_isPathDecomposition_l1 F x_1 x_2 x_31 c1 k) ih x_68 _ ⟨h2, h3, h4, h5, h6, h7, h8, h9, h20, h21, h24, h25, h26⟩ h
        refine .skip ?_
        exact t_f75_j2 H x_1 x_2 x_31 x_66 x_67 x_68 c1 Hc1 (i_isPathDecomposition_l1 F x_1 x_2 x_31 c1 k) ih x_65 _ ⟨h2, h3, h4, h5, h6, h7, h8, h9, h20, h21, h24, h25, h26⟩ h
      refine .skip ?_
      exact t_f75_j1 H x_1 x_2 x_31 x_68 c1 Hc1 (i_isPathDecomposition_l1 F x_1 x_2 x_31 c1 k) ih x_65 x_66 x_67 _ ⟨h2, h3, h4, h5, h6, h7, h8, h20, h21, h24, h25, h26⟩ h
    refine .exit (.esq (.elp (.ebk (.nsq (.seq (rg (gm h8 fun h41 => g1 41 (jb (x_67 == 0)) h41 fun h42 => ?_)))))))
    refine gm h42 fun h43 => split_on (c := (x_67 == 0)) h (fun hg3 h => ?_) (fun hg3 h => ?_)
    · refine g_no (h43.trans (congrArg V.bool hg3)) ?_
      refine g_no (h43.trans (congrArg V.bool hg3)) ?_
      refine g_no (h43.trans (congrArg V.bool hg3)) ?_
      refine g_no (h43.trans (congrArg V.bool hg3)) ?_
      refine g_no (h43.trans (congrArg V.bool hg3)) ?_
      refine g_no (h43.trans (congrArg V.bool hg3)) ?_
      refine g2 43 49 (jb true) (h43.trans (congrArg V.bool hg3)) (rfl : (_ : V) = (.tup [])) fun h50 => ?_
      refine gq ?_
      exact t_f75_j3 H x_1 x_2 x_31 c1 Hc1 true _ ⟨h2, h3, h4, h20, h21, h50⟩ h
    refine g_yes (h43.trans (congrArg V.bool hg3)) (gm h7 fun h44 => ?_)
    refine g_yes (h43.trans (congrArg V.bool hg3)) (gm h6 fun h45 => ?_)
    refine g_yes (h43.trans (congrArg V.bool hg3)) (g2 44 45 (ji (w64 (x_66 - x_65))) h44 h45 fun h46 => ?_)
    refine g_yes (h43.trans (congrArg V.bool hg3)) (g1 46 (ji (w64 ((w64 (x_66 - x_65)) + 1))) h46 fun h47 => ?_)
    refine g_yes (h43.trans (congrArg V.bool hg3)) (gm h8 fun h48 => ?_)
    refine g_yes (h43.trans (congrArg V.bool hg3)) (g2 47 48 (jb ((w64 ((w64 (x_66 - x_65)) + 1)) != x_67)) h47 h48 fun h49 => ?_)
    refine g2 43 49 (jb ((w64 ((w64 (x_66 - x_65)) + 1)) != x_67)) (h43.trans (congrArg V.bool hg3)) h49 fun h50 => ?_
    refine gq ?_
    exact t_f75_j3 H x_1 x_2 x_31 c1 Hc1 ((w64 ((w64 (x_66 - x_65)) + 1)) != x_67) _ ⟨h2, h3, h4, h20, h21, h50⟩ h
def i_isPathDecomposition_l2 (F : Nat) (x_1 : (Int × (List (Int × Int)))) (x_2 : (List (List Int)))  : Nat → Int → Option Bool
  | 0, _ => none
  | k + 1, x_31 =>
    bif decide (x_31 < x_1.1) then
      i_isPathDecomposition_l1 F x_1 x_2 x_31 (i_isPathDecomposition_l2 F x_1 x_2 k) F (-1) (-1) 0 0
    else
      (slices_ContainsFunc_2_int_2_int_of_i_isPathDecomposition_2 F x_1.2 (Cl.mk () ((Rf.mk x_2 : (Rf (List (List Int)))), ()) : (Cl 137 Unit ((Rf (List (List Int))) × Unit)))).bind fun r_84 =>
      some (!r_84)
theorem t_f75_l2 (H : H75 D σ F) (x_1 : (Int × (List (Int × Int)))) (x_2 : (List (List Int)))  : ∀ (k : Nat) (x_31 : Int) (s : Nat → V), Facts [(2, (.ref (.bx 2) 0 [] (.agg [(ji x_1.1), (Enc.enc (x_1.2 : List (Int × Int)))]))), (3, (.ref (.bx 3) 0 [] (Enc.enc (x_2 : List (List Int))))), (4, (jb false)), (20, (ji x_1.1)), (21, (ji x_31))] s → i_isPathDecomposition_l2 F x_1 x_2 k x_31 = some r → Run D σ (R75 r) (.run A75_1 [.lp A75_1, .bk 0, .sq A75_19]) s := by
  intro k
  induction k with
  | zero => intro x_31 s _ h; exact nomatch (h : (none : Option _) = some r)
  | succ k ih =>
    intro x_31 s hs h
    rw [i_isPathDecomposition_l2] at h
    obtain ⟨h2, h3, h4, h20, h21⟩ := hs
    refine .seq (rg (g2 21 20 (jb (decide (x_31 < x_1.1))) h21 h20 fun h22 => ?_))
    refine gq (.nsq (.seq (run_cond (t := decide (x_31 < x_1.1)) h22 h (fun h => ?_) (fun h => ?_))))
    · refine .skip (.nsq (.seq (.block (.seq (rg (gm h21 fun h23 => gm h23 fun h5 => gq (.nsq (.seq (rg (g0 (ji (-1)) fun h6 => ?_))))))))))
      refine g0 (ji (-1)) fun h7 => ?_
      refine g0 (ji 0) fun h8 => gq (.nsq (.seq (.seq (rg (g1 3 (Enc.enc (x_2 : List (List Int))) h3 fun h24 => ?_)))))
      refine gv (ji (x_2.length : Int)) (ev_len (xs := x_2) h24) fun h25 => ?_
      refine g0 (ji 0) fun h26 => gq (.nsq (.block (.loop ?_)))
      exact t_f75_l1 H x_1 x_2 x_31 (i_isPathDecomposition_l2 F x_1 x_2 k) ih F (-1) (-1) 0 0 _ ⟨h2, h3, h4, h5, h6, h7, h8, h20, h21, h24, h25, h26⟩ h
    refine .exit (.esq (.elp (.ebk (.nsq (.seq (rg (g1 2 (.ref (.bx 2) 0 [1] (Enc.enc (x_1.2 : List (Int × Int)))) h2 fun h52 => ?_)))))))
    refine g1 52 (Enc.enc (x_1.2 : List (Int × Int))) h52 fun h53 => ?_
    refine g1 3 (.fn 137 [] [(.ref (.bx 3) 0 [] (Enc.enc (x_2 : List (List Int))))]) h3 fun h54 => ?_
    obtain ⟨r_84, E_r_84, h⟩ := bind_some h
    refine g_call (m := 0) (al := false) (r := (Enc.enc (r_84 : Bool))) [Enc.enc (x_1.2 : (List (Int × Int))), Arg.arg ((Cl.mk () ((Rf.mk x_2 : (Rf (List (List Int)))), ()) : (Cl 137 Unit ((Rf (List (List Int))) × Unit))) : (Cl 137 Unit ((Rf (List (List Int))) × Unit)))] (ta_cons (v := (Enc.enc (x_1.2 : List (Int × Int)))) h53 rfl (Enc.erase_enc (x_1.2 : (List (Int × Int)))) (ta_cons (v := (.fn 137 [] [(.ref (.bx 3) 0 [] (Enc.enc (x_2 : List (List Int))))])) h54 rfl (erase_fn erases_nil (erases_cons (erase_ref (Enc.erase_enc (x_2 : (List (List Int))))) erases_nil)) ta_nil)) (H.c136s1 _ _ _ E_r_84) H.g136s1 rfl rfl rfl rfl ?_
    refine g1 55 (jb (!r_84)) (rfl : (_ : V) = (jb r_84)) fun h56 => ?_
    refine gm h56 fun h4 => gq (.nsq (.ret ?_))
    have hr := Option.some.inj h
    subst hr
    exact rrA (res_tmp h4) rfl
def i_isPathDecomposition_j4 (F : Nat) (x_1 : (Int × (List (Int × Int)))) (x_2 : (List (List Int)))  (x_4 : Bool) : Option Bool :=
  bif x_4 then
    some false
  else
    i_isPathDecomposition_l2 F x_1 x_2 F 0
theorem t_f75_j4 (H : H75 D σ F) (x_1 : (Int × (List (Int × Int)))) (x_2 : (List (List Int)))  (x_4 : Bool) (s : Nat → V) (hs : Facts [(2, (.ref (.bx 2) 0 [] (.agg [(ji x_1.1), (Enc.enc (x_1.2 : List (Int × Int)))]))), (3, (.ref (.bx 3) 0 [] (Enc.enc (x_2 : List (List Int))))), (4, (jb false)), (18, (jb x_4))] s) (h : i_isPathDecomposition_j4 F x_1 x_2  x_4 = some r) : Run D σ (R75 r) (.nrm [.sq A75_20, .sq A75_21]) s := by
  unfold i_isPathDecomposition_j4 at h
  obtain ⟨h2, h3, h4, h18⟩ := hs
  refine .nsq (run_cond (t := x_4) h18 h (fun h => ?_) (fun h => ?_))
  · refine .seq (rg (g0 (jb false) fun h4 => ?_))
    refine gq (.nsq (.ret ?_))
    have hr := Option.some.inj h
    subst hr
    exact rrA (res_tmp h4) rfl
  refine .skip (.nsq (.seq (.seq (rg (g1 2 (.ref (.bx 2) 0 [0] (ji x_1.1)) h2 fun h19 => ?_)))))
  refine g1 19 (ji x_1.1) h19 fun h20 => ?_
  refine g0 (ji 0) fun h21 => gq (.nsq (.block (.loop ?_)))
  exact t_f75_l2 H x_1 x_2 F 0 _ ⟨h2, h3, h4, h20, h21⟩ h
def i_isPathDecomposition (F : Nat) (x_1 : (Int × (List (Int × Int)))) (x_2 : (List (List Int))) : Option Bool :=
  bif decide ((x_2.length : Int) > 16) then
    i_isPathDecomposition_j4 F x_1 x_2 true
  else
    (slices_ContainsFunc_int_int_of_i_isPathDecomposition_1 F x_2 (Cl.mk () ((Rf.mk x_1 : (Rf (Int × (List (Int × Int))))), ()) : (Cl 134 Unit ((Rf (Int × (List (Int × Int)))) × Unit)))).bind fun r_85 =>
    i_isPathDecomposition_j4 F x_1 x_2 r_85
theorem t75 (H : H75 D σ F) (x_1 : (Int × (List (Int × Int)))) (x_2 : (List (List Int))) (s : Nat → V) (hs : Facts [(0, (.agg [(ji x_1.1), (Enc.enc (x_1.2 : List (Int × Int)))])), (1, (Enc.enc (x_2 : List (List Int))))] s) (h : i_isPathDecomposition F x_1 x_2 = some r) : Run D σ (R75 r) (.run A75 []) s := by
  unfold i_isPathDecomposition at h
  obtain ⟨h0, h1⟩ := hs
  refine .seq (run_reg ?_)
  refine e_clr ?_
  refine ez [(0, _), (1, _), (2, _), (3, _)] ⟨(keep_clear (pk := [2, 3]) h0 rfl (map_agg (maps_cons mi (maps_cons me maps_nil)))), (keep_clear (pk := [2, 3]) h1 rfl me), (gone_clear (pk := [2, 3]) (t := 2) rfl), (gone_clear (pk := [2, 3]) (t := 3) rfl)⟩ ?_
  rintro s ⟨h0, h1, h2, h3⟩
  refine g_box (.agg [(ji x_1.1), (Enc.enc (x_1.2 : List (Int × Int)))]) (rd_of h0 rfl) h2 rfl ?_
  refine g_box (Enc.enc (x_2 : List (List Int))) (rd_of h1 rfl) h3 rfl ?_
  refine g0 (jb false) fun h4 => ?_
  refine gq (.nsq (.seq (.seq (rg (g1 3 (Enc.enc (x_2 : List (List Int))) (rfl : (_ : V) = (.ref (.bx 3) 0 [] (Enc.enc (x_2 : List (List Int))))) fun h11 => ?_)))))
  refine gv (ji (x_2.length : Int)) (ev_len (xs := x_2) h11) fun h12 => ?_
  refine g1 12 (jb (decide ((x_2.length : Int) > 16))) h12 fun h13 => ?_
  refine gm h13 fun h14 => split_on (c := decide ((x_2.length : Int) > 16)) h (fun hg4 h => ?_) (fun hg4 h => ?_)
  · refine g_no (h14.trans (congrArg V.bool hg4)) ?_
    refine g_no (h14.trans (congrArg V.bool hg4)) ?_
    refine g_no (h14.trans (congrArg V.bool hg4)) ?_
    refine g2 14 17 (jb true) (h14.trans (congrArg V.bool hg4)) (rfl : (_ : V) = (.tup [])) fun h18 => ?_
    refine gq ?_
    exact t_f75_j4 H x_1 x_2 true _ ⟨rfl, rfl, h4, h18⟩ h
  refine g_yes (h14.trans (congrArg V.bool hg4)) (g1 3 (Enc.enc (x_2 : List (List Int))) (rfl : (_ : V) = (.ref (.bx 3) 0 [] (Enc.enc (x_2 : List (List Int))))) fun h15 => ?_)
  refine g_yes (h14.trans (congrArg V.bool hg4)) (g1 2 (.fn 134 [] [(.ref (.bx 2) 0 [] (.agg [(ji x_1.1), (Enc.enc (x_1.2 : List (Int × Int)))]))]) (rfl : (_ : V) = (.ref (.bx 2) 0 [] (.agg [(ji x_1.1), (Enc.enc (x_1.2 : List (Int × Int)))]))) fun h16 => ?_)
  obtain ⟨r_85, E_r_85, h⟩ := bind_some h
  refine g_yes (h14.trans (congrArg V.bool hg4)) (g_call (m := 0) (al := false) (r := (Enc.enc (r_85 : Bool))) [Enc.enc (x_2 : (List (List Int))), Arg.arg ((Cl.mk () ((Rf.mk x_1 : (Rf (Int × (List (Int × Int))))), ()) : (Cl 134 Unit ((Rf (Int × (List (Int × Int)))) × Unit))) : (Cl 134 Unit ((Rf (Int × (List (Int × Int)))) × Unit)))] (ta_cons (v := (Enc.enc (x_2 : List (List Int)))) h15 rfl (Enc.erase_enc (x_2 : (List (List Int)))) (ta_cons (v := (.fn 134 [] [(.ref (.bx 2) 0 [] (.agg [(ji x_1.1), (Enc.enc (x_1.2 : List (Int × Int)))]))])) h16 rfl (erase_fn erases_nil (erases_cons (erase_ref (Enc.erase_enc (x_1 : (Int × (List (Int × Int)))))) erases_nil)) ta_nil)) (H.c91s1 _ _ _ E_r_85) H.g91s1 rfl rfl rfl rfl ?_)
  refine g2 14 17 (jb r_85) (h14.trans (congrArg V.bool hg4)) (rfl : (_ : V) = (jb r_85)) fun h18 => ?_
  refine gq ?_
  exact t_f75_j4 H x_1 x_2 r_85 _ ⟨rfl, rfl, h4, h18⟩ h
end
def e75 (F : Nat) : Ent := ent 75 (fun (x : ((Int × (List (Int × Int))) × (List (List Int)) × Unit)) => i_isPathDecomposition F x.1 x.2.1) (fun (r : Bool) => (Enc.enc (r : Bool))) 0 false []
theorem p75 {F : Nat} {x0 : (Int × (List (Int × Int)))} {x1 : (List (List Int))} {r : Bool} (h : i_isPathDecomposition F x0 x1 = some r) : (e75 F).den [Enc.enc x0, Enc.enc x1] = some (Enc.enc (r : Bool)) := ent_put (x0, x1, ()) h
theorem o75 {D : Den} {σ : Sig} {F : Nat} (hF : Fits2 Try.prog D σ) (H : H75 D σ F) : (e75 F).Ok Try.prog := by
  refine ok_of (f := 75) (show unk 75 = 75 from rfl) (fun args r h => ?_) ⟨Try.f75, Try.func75, rfl, rfl⟩
  obtain ⟨⟨x0, x1, _⟩, y, rfl, hy, rfl⟩ := da_open h
  exact contract_run hF (by kernel_rfl) Try.func75 rfl c75 (show 2 ≤ Try.f75.ntmps by decide) (t75 H x0 x1 _ ⟨rfl, rfl⟩ hy)
/- loop.example/g01109/impl.LayoutOfBags -/
def A28o_10 : AC := (.cond (.t 35) (.reg [.clr [38, 39]] [(jm 36 6), (jm 37 10), (.mk (some 38) none false (.lit (.int .i64 (.ofNat 0)) 1 [(0, 0, (.t 37))])), (.mk (some 39) none false (.app .s (.t 36) (.t 38))), (jm 6 39)] [.home 39 6]) .skip)
def A28o_9 : AC := (.seq (.reg [] [(jm 32 6), (jm 33 10), (.mk (some 34) none false (.call (.k (.fn 76 [] [])) [(.t 32), (.t 33)])), ((jv 35 (.un .not (.t 34))))] []) A28o_10)
def A28o_11 : AC := (.reg [] [((jv 40 (.bin .add (.t 28) (jn 1)))), (jm 28 40)] [])
def A28o_8 : AC := (.seq (.block 3 (.seq (.reg [] [((jv 30 (.idx (.t 26) (.t 28) 1))), ((jv 31 (.load .s (.t 30)))), (jm 10 31)] []) A28o_9)) A28o_11)
def A28o_7 : AC := (.seq (.cond (.t 29) .skip (.exit 2)) A28o_8)
def A28o_6 : AC := (.seq (.reg [] [((jv 29 (.bin .lss (.t 28) (.t 27))))] []) A28o_7)
def A28o_5 : AC := (.block 2 (.loop A28o_6))
def A28o_4 : AC := (.seq (.reg [] [(jm 26 8), ((jv 27 (.len (.t 26)))), ((jv 28 (.mov (jn 0))))] []) A28o_5)
def A28o_12 : AC := (.reg [] [((jv 41 (.bin .add (.t 22) (jn 1)))), (jm 22 41)] [])
def A28o_3 : AC := (.seq (.block 1 (.seq (.reg [] [((jv 24 (.idx (.t 20) (.t 22) 1))), ((jv 25 (.load .p (.t 24)))), (jm 8 25)] []) A28o_4)) A28o_12)
def A28o_2 : AC := (.seq (.cond (.t 23) .skip (.exit 0)) A28o_3)
def A28o_1 : AC := (.seq (.reg [] [((jv 23 (.bin .lss (.t 22) (.t 21))))] []) A28o_2)
def A28o_13 : AC := (.seq (.reg [] [(jm 42 6), (jm 4 42), ((jv 5 (.mov (.k (.bool true)))))] [.home 6 4]) .ret)
def A28o_14 : AC := (.cond (.t 19) (.seq (.reg [] [((jv 4 (.mov (.k (.sl .nl .s 0 []))))), ((jv 5 (.mov (.k (.bool false)))))] []) .ret) .skip)
def A28o_17 : AC := (.block 0 (.loop A28o_1))
def A28o_16 : AC := (.seq (.seq (.reg [] [(jm 20 1), ((jv 21 (.len (.t 20)))), ((jv 22 (.mov (jn 0))))] []) A28o_17) A28o_13)
def A28o_15 : AC := (.seq (.reg [] [((jv 6 (.mov (.k (.sl .nl .s 0 [])))))] []) A28o_16)
def A28o_18 : AC := (.seq (.seq (.reg [] [((jv 11 (.load (.ag [.s, .p]) (.t 2)))), (.mk (some 12) none false (.call (.k (.fn 63 [] [])) [(.t 11)])), ((jv 13 (.un .not (.t 12)))), (jm 14 13), ((jg 15 14 false (.load (.ag [.s, .p]) (.t 2)))), ((jg 16 14 false (.mov (.t 1)))), (.mk (some 17) (some (14, false)) false (.call (.k (.fn 75 [] [])) [(.t 15), (.t 16)])), ((jg 18 14 false (.un .not (.t 17)))), ((jv 19 (.pick (.t 14) (.k (.bool true)) (.t 18))))] []) A28o_14) A28o_15)
def A28o : AC := (.seq (.reg [.clr [2]] [(.mk (some 2) none false (.box (.t 0))), ((jv 4 (.mov (.k (.sl .nl .s 0 []))))), ((jv 5 (.mov (.k (.bool false)))))] []) A28o_18)
def an28o : List An := [{ id := 0, pre := [.clr [2]], ep := [], lin := [], sp := [] }, { id := 11, pre := [.clr [38, 39]], ep := [.home 39 6], lin := [], sp := [] }, { id := 14, pre := [], ep := [.home 6 4], lin := [], sp := [] }]
theorem c28o : cC Try.prog Try.f28.ntmps an28o (Try.f28.body.getD .skip) = some A28o := by kernel_rfl
structure H28o (D : Den) (σ : Sig) (F : Nat) : Prop where
  c63 : ∀ (x0 : (Int × (List (Int × Int)))) r, i_IsGraph F x0 = some r → D 63 [Enc.enc x0] = some (Enc.enc (r : Bool))
  g63 : σ 63 = some (0, false)
  c75 : ∀ (x0 : (Int × (List (Int × Int)))) (x1 : (List (List Int))) r, i_isPathDecomposition F x0 x1 = some r → D 75 [Enc.enc x0, Enc.enc x1] = some (Enc.enc (r : Bool))
  g75 : σ 75 = some (0, false)
  c76 : ∀ (x0 : (List Int)) (x1 : Int) r, slices_Contains F x0 x1 = some r → D 76 [Enc.enc x0, Enc.enc x1] = some (Enc.enc (r : Bool))
  g76 : σ 76 = some (0, false)
abbrev R28o (r : ((NL Int) × Bool)) : (Nat → V) → Prop := RR Try.prog [.tmp 4, .tmp 5] 1 false (.tup [(encO .sh (r.1 : NL Int)), (Enc.enc (r.2 : Bool))])
section
variable {D : Den} {σ : Sig} {F : Nat} {r : ((NL Int) × Bool)}
def i_LayoutOfBags_o_j1 (F : Nat) (x_2 : (List (List Int))) (x_25 : Int) (e_44 : (List Int)) (x_51 : Int) (c1 : (NL Int) → Int → Option ((NL Int) × Bool)) (c4 : (NL Int) → Int → Option ((NL Int) × Bool)) (x_60 : (NL Int)) : Option ((NL Int) × Bool) :=
  c4 x_60 (w64 (x_51 + 1))
theorem t_f28o_j1 (H : H28o D σ F) (x_2 : (List (List Int))) (x_25 : Int) (e_44 : (List Int)) (x_51 : Int) (c1 : (NL Int) → Int → Option ((NL Int) × Bool)) (Hc1 : ∀ (x_24 : (NL Int)) (x_25 : Int) (s : Nat → V), Facts [(4, (.sl .nl (Enc.shp Int) 0 [])), (5, (jb false)), (6, (oI 6 [] x_24)), (20, (Enc.enc (x_2 : List (List Int)))), (21, (ji (x_2.length : Int))), (22, (ji x_25))] s → c1 x_24 x_25 = some r → Run D σ (R28o r) (.run A28o_1 [.lp A28o_1, .bk 0, .sq A28o_13]) s) (c4 : (NL Int) → Int → Option ((NL Int) × Bool)) (Hc4 : ∀ (x_50 : (NL Int)) (x_51 : Int) (s : Nat → V), Facts [(4, (.sl .nl (Enc.shp Int) 0 [])), (5, (jb false)), (6, (oI 6 [] x_50)), (20, (Enc.enc (x_2 : List (List Int)))), (21, (ji (x_2.length : Int))), (22, (ji x_25)), (26, (eL e_44)), (27, (ji (e_44.length : Int))), (28, (ji x_51))] s → c4 x_50 x_51 = some r → Run D σ (R28o r) (.run A28o_6 [.lp A28o_6, .bk 2, .bk 1, .sq A28o_12, .lp A28o_1, .bk 0, .sq A28o_13]) s) (x_60 : (NL Int)) (s : Nat → V) (hs : Facts [(4, (.sl .nl (Enc.shp Int) 0 [])), (5, (jb false)), (6, (oI 6 [] x_60)), (20, (Enc.enc (x_2 : List (List Int)))), (21, (ji (x_2.length : Int))), (22, (ji x_25)), (26, (eL e_44)), (27, (ji (e_44.length : Int))), (28, (ji x_51))] s) (h : i_LayoutOfBags_o_j1 F x_2 x_25 e_44 x_51 c1 c4 x_60 = some r) : Run D σ (R28o r) (.nrm [.bk 3, .sq A28o_11, .lp A28o_6, .bk 2, .bk 1, .sq A28o_12, .lp A28o_1, .bk 0, .sq A28o_13]) s := by
  unfold i_LayoutOfBags_o_j1 at h
  obtain ⟨h4, h5, h6, h20, h21, h22, h26, h27, h28⟩ := hs
  refine .nbk (.nsq (rg (g1 28 (ji (w64 (x_51 + 1))) h28 fun h40 => ?_)))
  refine gm h40 fun h28 => gq (.nlp ?_)
  exact Hc4 x_60 (w64 (x_51 + 1)) _ ⟨h4, h5, h6, h20, h21, h22, h26, h27, h28⟩ h
def i_LayoutOfBags_o_l1 (F : Nat) (x_2 : (List (List Int))) (x_25 : Int) (e_44 : (List Int)) (c1 : (NL Int) → Int → Option ((NL Int) × Bool)) : Nat → (NL Int) → Int → Option ((NL Int) × Bool)
  | 0, _, _ => none
  | k + 1, x_50, x_51 =>
    bif decide (x_51 < (e_44.length : Int)) then
      (idx e_44 x_51).bind fun e_57 =>
      (slices_Contains F x_50.list e_57).bind fun r_58 =>
      bif (!r_58) then
        (appL x_50.list [e_57]).bind fun ap_61 =>
        i_LayoutOfBags_o_j1 F x_2 x_25 e_44 x_51 c1 (i_LayoutOfBags_o_l1 F x_2 x_25 e_44 c1 k) (.of ap_61)
      else
        i_LayoutOfBags_o_j1 F x_2 x_25 e_44 x_51 c1 (i_LayoutOfBags_o_l1 F x_2 x_25 e_44 c1 k) x_50
    else
      c1 x_50 (w64 (x_25 + 1))
theorem t_f28o_l1 (H : H28o D σ F) (x_2 : (List (List Int))) (x_25 : Int) (e_44 : (List Int)) (c1 : (NL Int) → Int → Option ((NL Int) × Bool)) (Hc1 : ∀ (x_24 : (NL Int)) (x_25 : Int) (s : Nat → V), Facts [(4, (.sl .nl (Enc.shp Int) 0 [])), (5, (jb false)), (6, (oI 6 [] x_24)), (20, (Enc.enc (x_2 : List (List Int)))), (21, (ji (x_2.length : Int))), (22, (ji x_25))] s → c1 x_24 x_25 = some r → Run D σ (R28o r) (.run A28o_1 [.lp A28o_1, .bk 0, .sq A28o_13]) s) : ∀ (k : Nat) (x_50 : (NL Int)) (x_51 : Int) (s : Nat → V), Facts [(4, (.sl .nl (Enc.shp Int) 0 [])), (5, (jb false)), (6, (oI 6 [] x_50)), (20, (Enc.enc (x_2 : List (List Int)))), (21, (ji (x_2.length : Int))), (22, (ji x_25)), (26, (eL e_44)), (27, (ji (e_44.length : Int))), (28, (ji x_51))] s → i_LayoutOfBags_o_l1 F x_2 x_25 e_44 c1 k x_50 x_51 = some r → Run D σ (R28o r) (.run A28o_6 [.lp A28o_6, .bk 2, .bk 1, .sq A28o_12, .lp A28o_1, .bk 0, .sq A28o_13]) s := by
  intro k
  induction k with
  | zero => intro x_50 x_51 s _ h; exact nomatch (h : (none : Option _) = some r)
  | succ k ih =>
    intro x_50 x_51 s hs h
    rw [i_LayoutOfBags_o_l1] at h
    obtain ⟨h4, h5, h6, h20, h21, h22, h26, h27, h28⟩ := hs
    refine .seq (rg (g2 28 27 (jb (decide (x_51 < (e_44.length : Int)))) h28 h27 fun h29 => ?_))
    refine gq (.nsq (.seq (run_cond (t := decide (x_51 < (e_44.length : Int))) h29 h (fun h => ?_) (fun h => ?_))))
    · refine .skip (.nsq (.seq (.block (.seq (rg ?_)))))
      obtain ⟨e_57, E_e_57, h⟩ := bind_some h
      refine gv (.ref .sh 0 [] (ji e_57)) (ev_idx (t := .sh) (lo := 0) (xs := e_44) h26 h28 E_e_57 rfl rfl) fun h30 => ?_
      refine g1 30 (ji e_57) h30 fun h31 => ?_
      refine gm h31 fun h10 => gq (.nsq (.seq (rg (gv (oI 6 [] x_50) (ev_mov h6 ok_encO) fun h32 => ?_))))
      refine gm h10 fun h33 => ?_
      obtain ⟨r_58, E_r_58, h⟩ := bind_some h
      refine g_call (m := 0) (al := false) (r := (Enc.enc (r_58 : Bool))) [Enc.enc (x_50.list : (List Int)), Enc.enc (e_57 : Int)] (ta_cons (v := (oI 6 [] x_50)) h32 ok_encP (erase_encO (o := x_50)) (ta_cons (v := (ji e_57)) h33 rfl rfl ta_nil)) (H.c76 _ _ _ E_r_58) H.g76 rfl rfl rfl rfl ?_
      refine g1 34 (jb (!r_58)) (rfl : (_ : V) = (jb r_58)) fun h35 => ?_
      refine gq (.nsq (run_cond (t := (!r_58)) h35 h (fun h => ?_) (fun h => ?_)))
      · refine run_reg ?_
        refine e_clr ?_
        refine ez [(4, _), (5, _), (6, _), (10, _), (20, _), (21, _), (22, _), (26, _), (27, _), (28, _), (38, _), (39, _)] ⟨(keep_clear (pk := [38, 39]) h4 rfl rfl), (keep_clear (pk := [38, 39]) h5 rfl mb), (keep_clear (pk := [38, 39]) h6 rfl (map_encO (r := 6) (p := []) rfl rfl)), (keep_clear (pk := [38, 39]) h10 rfl mi), (keep_clear (pk := [38, 39]) h20 rfl me), (keep_clear (pk := [38, 39]) h21 rfl mi), (keep_clear (pk := [38, 39]) h22 rfl mi), (keep_clear (pk := [38, 39]) h26 rfl me), (keep_clear (pk := [38, 39]) h27 rfl mi), (keep_clear (pk := [38, 39]) h28 rfl mi), (gone_clear (pk := [38, 39]) (t := 38) rfl), (gone_clear (pk := [38, 39]) (t := 39) rfl)⟩ ?_
        rintro s ⟨h4, h5, h6, h10, h20, h21, h22, h26, h27, h28, h38, h39⟩
        refine gv (oI 6 [] x_50) (ev_mov h6 ok_encO) fun h36 => ?_
        refine gm h10 fun h37 => g_litL [(37, (ji e_57))] [Enc.enc (e_57 : Int)] h37 rfl rfl h38 ?_
        obtain ⟨ap_61, E_ap_61, h⟩ := bind_some h
        refine g_app (q := 6) (p := []) (o := (x_50 : NL Int)) (ys := ([e_57] : List Int)) (t2 := (.at 38 [])) (lo2 := 0) h36 rfl rfl h39 (appN_L (o := (x_50 : NL Int)) E_ap_61 (by split <;> simp)) (fun s_54 ha_54 => ?_)
        refine gm (rfl : (_ : V) = (oI 39 [] (.of ap_61))) fun h6 => ?_
        refine g_end ?_
        refine e_home (r := 39) (x := 6) (v := _) h6 rfl (fun s_55 hg_55 => ?_)
        refine ez [(4, (.sl .nl (Enc.shp Int) 0 [])), (5, (jb false)), (6, (oI 6 [] (.of ap_61))), (20, (Enc.enc (x_2 : List (List Int)))), (21, (ji (x_2.length : Int))), (22, (ji x_25)), (26, (eL e_44)), (27, (ji (e_44.length : Int))), (28, (ji x_51))] ⟨(hg_55 4 _ (.sl .nl (Enc.shp Int) 0 []) (show s_54 4 = (.sl .nl (Enc.shp Int) 0 []) from keep_app ha_54 h4 rfl) rfl), (hg_55 5 _ _ (show s_54 5 = (jb false) from keep_app ha_54 h5 mb) mb), (hg_55 6 _ _ h6 (map_encO (r := 39) (p := []) rfl rfl)), (hg_55 20 _ _ (show s_54 20 = (Enc.enc (x_2 : List (List Int))) from keep_app ha_54 h20 me) me), (hg_55 21 _ _ (show s_54 21 = (ji (x_2.length : Int)) from keep_app ha_54 h21 mi) mi), (hg_55 22 _ _ (show s_54 22 = (ji x_25) from keep_app ha_54 h22 mi) mi), (hg_55 26 _ _ (show s_54 26 = (eL e_44) from keep_app ha_54 h26 me) me), (hg_55 27 _ _ (show s_54 27 = (ji (e_44.length : Int)) from keep_app ha_54 h27 mi) mi), (hg_55 28 _ _ (show s_54 28 = (ji x_51) from keep_app ha_54 h28 mi) mi)⟩ ?_
        rintro s ⟨h4, h5, h6, h20, h21, h22, h26, h27, h28⟩
        exact t_f28o_j1 H x_2 x_25 e_44 x_51 c1 Hc1 (i_LayoutOfBags_o_l1 F x_2 x_25 e_44 c1 k) ih (.of ap_61) _ ⟨h4, h5, h6, h20, h21, h22, h26, h27, h28⟩ h
      refine .skip ?_
      exact t_f28o_j1 H x_2 x_25 e_44 x_51 c1 Hc1 (i_LayoutOfBags_o_l1 F x_2 x_25 e_44 c1 k) ih x_50 _ ⟨h4, h5, h6, h20, h21, h22, h26, h27, h28⟩ h
    refine .exit (.esq (.elp (.ebk (.nbk (.nsq (rg (g1 22 (ji (w64 (x_25 + 1))) h22 fun h41 => ?_)))))))
    refine gm h41 fun h22 => gq (.nlp ?_)
    exact Hc1 x_50 (w64 (x_25 + 1)) _ ⟨h4, h5, h6, h20, h21, h22⟩ h
def i_LayoutOfBags_o_l2 (F : Nat) (x_2 : (List (List Int)))  : Nat → (NL Int) → Int → Option ((NL Int) × Bool)
  | 0, _, _ => none
  | k + 1, x_24, x_25 =>
    bif decide (x_25 < (x_2.length : Int)) then
      (idx x_2 x_25).bind fun e_44 =>
      i_LayoutOfBags_o_l1 F x_2 x_25 e_44 (i_LayoutOfBags_o_l2 F x_2 k) F x_24 0
    else
      some (x_24, true)
theorem t_f28o_l2 (H : H28o D σ F) (x_2 : (List (List Int)))  : ∀ (k : Nat) (x_24 : (NL Int)) (x_25 : Int) (s : Nat → V), Facts [(4, (.sl .nl (Enc.shp Int) 0 [])), (5, (jb false)), (6, (oI 6 [] x_24)), (20, (Enc.enc (x_2 : List (List Int)))), (21, (ji (x_2.length : Int))), (22, (ji x_25))] s → i_LayoutOfBags_o_l2 F x_2 k x_24 x_25 = some r → Run D σ (R28o r) (.run A28o_1 [.lp A28o_1, .bk 0, .sq A28o_13]) s := by
  intro k
  induction k with
  | zero => intro x_24 x_25 s _ h; exact nomatch (h : (none : Option _) = some r)
  | succ k ih =>
    intro x_24 x_25 s hs h
    rw [i_LayoutOfBags_o_l2] at h
    obtain ⟨h4, h5, h6, h20, h21, h22⟩ := hs
    refine .seq (rg (g2 22 21 (jb (decide (x_25 < (x_2.length : Int)))) h22 h21 fun h23 => ?_))
    refine gq (.nsq (.seq (run_cond (t := decide (x_25 < (x_2.length : Int))) h23 h (fun h => ?_) (fun h => ?_))))
    · refine .skip (.nsq (.seq (.block (.seq (rg ?_)))))
      obtain ⟨e_44, E_e_44, h⟩ := bind_some h
      refine gv (.ref .sh 0 [] (eL e_44)) (ev_idx (t := .sh) (lo := 0) (xs := x_2) h20 h22 E_e_44 rfl rfl) fun h24 => ?_
      refine g1 24 (eL e_44) h24 fun h25 => ?_
      refine gm h25 fun h8 => gq (.nsq (.seq (rg (gm h8 fun h26 => gv (ji (e_44.length : Int)) (ev_len (xs := e_44) h26) fun h27 => ?_))))
      refine g0 (ji 0) fun h28 => gq (.nsq (.block (.loop ?_)))
      exact t_f28o_l1 H x_2 x_25 e_44 (i_LayoutOfBags_o_l2 F x_2 k) ih F x_24 0 _ ⟨h4, h5, h6, h20, h21, h22, h26, h27, h28⟩ h
    refine .exit (.esq (.elp (.ebk (.nsq (.seq (rg (gv (oI 6 [] x_24) (ev_mov h6 ok_encO) fun h42 => ?_)))))))
    refine gv (oI 6 [] x_24) (ev_mov h42 ok_encO) fun h4 => ?_
    refine g0 (jb true) fun h5 => ?_
    refine g_end ?_
    refine e_home (r := 6) (x := 4) (v := _) h4 ok_encO (fun s_56 hg_56 => ?_)
    refine ez [(4, (oI 4 [] x_24)), (5, (jb true))] ⟨(hg_56 4 _ _ h4 (map_encO (r := 6) (p := []) rfl rfl)), (hg_56 5 _ _ h5 mb)⟩ ?_
    rintro s ⟨h4, h5⟩
    refine .nsq (.ret ?_)
    have hr := Option.some.inj h
    subst hr
    exact rrB (res_tmp h4) (res_tmp h5) (fin_retO (finO_tup (finOs_cons (finO_own (o := (x_24 : NL Int))) (finOs_cons finO_bool finOs_nil))) rfl (mine_tup (mines_cons (mine_own rfl) (mines_cons rfl mines_nil))))
def i_LayoutOfBags_o_j2 (F : Nat) (x_2 : (List (List Int)))  (x_5 : Bool) : Option ((NL Int) × Bool) :=
  bif x_5 then
    some (.nil, false)
  else
    i_LayoutOfBags_o_l2 F x_2 F .nil 0
theorem t_f28o_j2 (H : H28o D σ F) (x_2 : (List (List Int)))  (x_5 : Bool) (s : Nat → V) (hs : Facts [(1, (Enc.enc (x_2 : List (List Int)))), (4, (.sl .nl (Enc.shp Int) 0 [])), (5, (jb false)), (19, (jb x_5))] s) (h : i_LayoutOfBags_o_j2 F x_2  x_5 = some r) : Run D σ (R28o r) (.nrm [.sq A28o_14, .sq A28o_15]) s := by
  unfold i_LayoutOfBags_o_j2 at h
  obtain ⟨h1, h4, h5, h19⟩ := hs
  refine .nsq (run_cond (t := x_5) h19 h (fun h => ?_) (fun h => ?_))
  · refine .seq (rg (g0 (.sl .nl (Enc.shp Int) 0 []) fun h4 => ?_))
    refine g0 (jb false) fun h5 => ?_
    refine gq (.nsq (.ret ?_))
    have hr := Option.some.inj h
    subst hr
    exact rrB (res_tmp h4) (res_tmp h5) (fin_retO (finO_tup (finOs_cons (finO_nil (α := Int)) (finOs_cons finO_bool finOs_nil))) rfl (mine_tup (mines_cons mine_nil (mines_cons rfl mines_nil))))
  refine .skip (.nsq (.seq (rg (g0 (.sl .nl (Enc.shp Int) 0 []) fun h6 => ?_))))
  refine gq (.nsq (.seq (.seq (rg (gm h1 fun h20 => gv (ji (x_2.length : Int)) (ev_len (xs := x_2) h20) fun h21 => ?_)))))
  refine g0 (ji 0) fun h22 => gq (.nsq (.block (.loop ?_)))
  exact t_f28o_l2 H x_2 F .nil 0 _ ⟨h4, h5, h6, h20, h21, h22⟩ h
def i_LayoutOfBags_o (F : Nat) (x_1 : (Int × (List (Int × Int)))) (x_2 : (List (List Int))) : Option ((NL Int) × Bool) :=
  (i_IsGraph F x_1).bind fun r_62 =>
  bif (!r_62) then
    i_LayoutOfBags_o_j2 F x_2 true
  else
    (i_isPathDecomposition F x_1 x_2).bind fun r_63 =>
    i_LayoutOfBags_o_j2 F x_2 (!r_63)
theorem t28o (H : H28o D σ F) (x_1 : (Int × (List (Int × Int)))) (x_2 : (List (List Int))) (s : Nat → V) (hs : Facts [(0, (.agg [(ji x_1.1), (Enc.enc (x_1.2 : List (Int × Int)))])), (1, (Enc.enc (x_2 : List (List Int))))] s) (h : i_LayoutOfBags_o F x_1 x_2 = some r) : Run D σ (R28o r) (.run A28o []) s := by
  unfold i_LayoutOfBags_o at h
  obtain ⟨h0, h1⟩ := hs
  refine .seq (run_reg ?_)
  refine e_clr ?_
  refine ez [(0, _), (1, _), (2, _)] ⟨(keep_clear (pk := [2]) h0 rfl (map_agg (maps_cons mi (maps_cons me maps_nil)))), (keep_clear (pk := [2]) h1 rfl me), (gone_clear (pk := [2]) (t := 2) rfl)⟩ ?_
  rintro s ⟨h0, h1, h2⟩
  refine g_box (.agg [(ji x_1.1), (Enc.enc (x_1.2 : List (Int × Int)))]) (rd_of h0 rfl) h2 rfl ?_
  refine g0 (.sl .nl (Enc.shp Int) 0 []) fun h4 => ?_
  refine g0 (jb false) fun h5 => ?_
  refine gq (.nsq (.seq (.seq (rg (g1 2 (.agg [(ji x_1.1), (Enc.enc (x_1.2 : List (Int × Int)))]) (rfl : (_ : V) = (.ref (.bx 2) 0 [] (.agg [(ji x_1.1), (Enc.enc (x_1.2 : List (Int × Int)))]))) fun h11 => ?_)))))
  obtain ⟨r_62, E_r_62, h⟩ := bind_some h
  refine g_call (m := 0) (al := false) (r := (Enc.enc (r_62 : Bool))) [Enc.enc (x_1 : (Int × (List (Int × Int))))] (ta_cons (v := (.agg [(ji x_1.1), (Enc.enc (x_1.2 : List (Int × Int)))])) h11 rfl (Enc.erase_enc (x_1 : (Int × (List (Int × Int))))) ta_nil) (H.c63 _ _ E_r_62) H.g63 rfl rfl rfl rfl ?_
  refine g1 12 (jb (!r_62)) (rfl : (_ : V) = (jb r_62)) fun h13 => ?_
  refine gm h13 fun h14 => split_on (c := (!r_62)) h (fun hg4 h => ?_) (fun hg4 h => ?_)
  · refine g_no (h14.trans (congrArg V.bool hg4)) ?_
    refine g_no (h14.trans (congrArg V.bool hg4)) ?_
    refine g_no (h14.trans (congrArg V.bool hg4)) ?_
    refine g_no (h14.trans (congrArg V.bool hg4)) ?_
    refine g2 14 18 (jb true) (h14.trans (congrArg V.bool hg4)) (rfl : (_ : V) = (.tup [])) fun h19 => ?_
    refine gq ?_
    exact t_f28o_j2 H x_2 true _ ⟨h1, h4, h5, h19⟩ h
  refine g_yes (h14.trans (congrArg V.bool hg4)) (g1 2 (.agg [(ji x_1.1), (Enc.enc (x_1.2 : List (Int × Int)))]) (rfl : (_ : V) = (.ref (.bx 2) 0 [] (.agg [(ji x_1.1), (Enc.enc (x_1.2 : List (Int × Int)))]))) fun h15 => ?_)
  refine g_yes (h14.trans (congrArg V.bool hg4)) (gm h1 fun h16 => ?_)
  obtain ⟨r_63, E_r_63, h⟩ := bind_some h
  refine g_yes (h14.trans (congrArg V.bool hg4)) (g_call (m := 0) (al := false) (r := (Enc.enc (r_63 : Bool))) [Enc.enc (x_1 : (Int × (List (Int × Int)))), Enc.enc (x_2 : (List (List Int)))] (ta_cons (v := (.agg [(ji x_1.1), (Enc.enc (x_1.2 : List (Int × Int)))])) h15 rfl (Enc.erase_enc (x_1 : (Int × (List (Int × Int))))) (ta_cons (v := (Enc.enc (x_2 : List (List Int)))) h16 rfl (Enc.erase_enc (x_2 : (List (List Int)))) ta_nil)) (H.c75 _ _ _ E_r_63) H.g75 rfl rfl rfl rfl ?_)
  refine g_yes (h14.trans (congrArg V.bool hg4)) (g1 17 (jb (!r_63)) (rfl : (_ : V) = (jb r_63)) fun h18 => ?_)
  refine g2 14 18 (jb (!r_63)) (h14.trans (congrArg V.bool hg4)) h18 fun h19 => ?_
  refine gq ?_
  exact t_f28o_j2 H x_2 (!r_63) _ ⟨h1, h4, h5, h19⟩ h
end
def e28o (F : Nat) : Ent := ent 1000000028 (fun (x : ((Int × (List (Int × Int))) × (List (List Int)) × Unit)) => i_LayoutOfBags_o F x.1 x.2.1) (fun (r : ((NL Int) × Bool)) => (.tup [(encO .sh (r.1 : NL Int)), (Enc.enc (r.2 : Bool))])) 1 false []
theorem p28o {F : Nat} {x0 : (Int × (List (Int × Int)))} {x1 : (List (List Int))} {r : ((NL Int) × Bool)} (h : i_LayoutOfBags_o F x0 x1 = some r) : (e28o F).den [Enc.enc x0, Enc.enc x1] = some (.tup [(encO .sh (r.1 : NL Int)), (Enc.enc (r.2 : Bool))]) := ent_put (x0, x1, ()) h
theorem o28o {D : Den} {σ : Sig} {F : Nat} (hF : Fits2 Try.prog D σ) (H : H28o D σ F) : (e28o F).Ok Try.prog := by
  refine ok_of (f := 28) (show unk 1000000028 = 28 from rfl) (fun args r h => ?_) ⟨Try.f28, Try.func28, rfl, rfl⟩
  obtain ⟨⟨x0, x1, _⟩, y, rfl, hy, rfl⟩ := da_open h
  exact contract_run hF (by kernel_rfl) Try.func28 rfl c28o (show 2 ≤ Try.f28.ntmps by decide) (t28o H x0 x1 _ ⟨rfl, rfl⟩ hy)
/- loop.example/g01109/laws.eqIntS -/
def A21_2 : AC := (.cond (.t 14) .skip (.exit 0))
def A21_4 : AC := (.cond (.t 25) (.seq (.reg [] [((jv 4 (.mov (.k (.bool false)))))] []) .ret) .skip)
def A21_5 : AC := (.reg [] [(jm 15 5), ((jv 16 (.bin .add (.t 15) (jn 1)))), (jm 5 16)] [])
def A21_3 : AC := (.seq (.block 1 (.seq (.reg [] [(jm 17 0), (jm 18 5), ((jv 19 (.idx (.t 17) (.t 18) 1))), ((jv 20 (.load .s (.t 19)))), (jm 21 1), (jm 22 5), ((jv 23 (.idx (.t 21) (.t 22) 1))), ((jv 24 (.load .s (.t 23)))), ((jv 25 (.bin .neq (.t 20) (.t 24))))] []) A21_4)) A21_5)
def A21_1 : AC := (.seq (.seq (.reg [] [(jm 11 5), (jm 12 0), ((jv 13 (.len (.t 12)))), ((jv 14 (.bin .lss (.t 11) (.t 13))))] []) A21_2) A21_3)
def A21_6 : AC := (.seq (.reg [] [((jv 4 (.mov (.k (.bool true)))))] []) .ret)
def A21_8 : AC := (.cond (.t 10) (.seq (.reg [] [((jv 4 (.mov (.k (.bool false)))))] []) .ret) .skip)
def A21_10 : AC := (.block 0 (.loop A21_1))
def A21_9 : AC := (.seq (.seq (.reg [] [((jv 5 (.mov (jn 0))))] []) A21_10) A21_6)
def A21_7 : AC := (.seq (.seq (.reg [] [(jm 6 0), ((jv 7 (.len (.t 6)))), (jm 8 1), ((jv 9 (.len (.t 8)))), ((jv 10 (.bin .neq (.t 7) (.t 9))))] []) A21_8) A21_9)
def A21 : AC := (.seq (.reg [] [((jv 4 (.mov (.k (.bool false)))))] []) A21_7)
def an21 : List An := []
theorem c21 : cC Try.prog Try.f21.ntmps an21 (Try.f21.body.getD .skip) = some A21 := by kernel_rfl
structure H21 (D : Den) (σ : Sig) (F : Nat) : Prop where
  mk ::
abbrev R21 (r : Bool) : (Nat → V) → Prop := RR Try.prog [.tmp 4] 0 false (Enc.enc (r : Bool))
section
variable {D : Den} {σ : Sig} {F : Nat} {r : Bool}
def w_eqIntS_l1 (F : Nat) (x_1 : (List Int)) (x_2 : (List Int))  : Nat → Int → Option Bool
  | 0, _ => none
  | k + 1, x_5 =>
    bif decide (x_5 < (x_1.length : Int)) then
      (idx x_1 x_5).bind fun e_8 =>
      (idx x_2 x_5).bind fun e_9 =>
      bif (e_8 != e_9) then
        some false
      else
        (w_eqIntS_l1 F x_1 x_2 k) (w64 (x_5 + 1))
    else
      some true
theorem t_f21_l1 (H : H21 D σ F) (x_1 : (List Int)) (x_2 : (List Int))  : ∀ (k : Nat) (x_5 : Int) (s : Nat → V), Facts [(0, (eL x_1)), (1, (eL x_2)), (4, (jb false)), (5, (ji x_5))] s → w_eqIntS_l1 F x_1 x_2 k x_5 = some r → Run D σ (R21 r) (.run A21_1 [.lp A21_1, .bk 0, .sq A21_6]) s := by
  intro k
  induction k with
  | zero => intro x_5 s _ h; exact nomatch (h : (none : Option _) = some r)
  | succ k ih =>
    intro x_5 s hs h
    rw [w_eqIntS_l1] at h
    obtain ⟨h0, h1, h4, h5⟩ := hs
    refine .seq (.seq (rg (gm h5 fun h11 => gm h0 fun h12 => gv (ji (x_1.length : Int)) (ev_len (xs := x_1) h12) fun h13 => ?_)))
    refine g2 11 13 (jb (decide (x_5 < (x_1.length : Int)))) h11 h13 fun h14 => ?_
    refine gq (.nsq (run_cond (t := decide (x_5 < (x_1.length : Int))) h14 h (fun h => ?_) (fun h => ?_)))
    · refine .skip (.nsq (.seq (.block (.seq (rg (gm h0 fun h17 => gm h5 fun h18 => ?_))))))
      obtain ⟨e_8, E_e_8, h⟩ := bind_some h
      refine gv (.ref .sh 0 [] (ji e_8)) (ev_idx (t := .sh) (lo := 0) (xs := x_1) h17 h18 E_e_8 rfl rfl) fun h19 => ?_
      refine g1 19 (ji e_8) h19 fun h20 => ?_
      refine gm h1 fun h21 => gm h5 fun h22 => ?_
      obtain ⟨e_9, E_e_9, h⟩ := bind_some h
      refine gv (.ref .sh 0 [] (ji e_9)) (ev_idx (t := .sh) (lo := 0) (xs := x_2) h21 h22 E_e_9 rfl rfl) fun h23 => ?_
      refine g1 23 (ji e_9) h23 fun h24 => ?_
      refine g2 20 24 (jb (e_8 != e_9)) h20 h24 fun h25 => ?_
      refine gq (.nsq (run_cond (t := (e_8 != e_9)) h25 h (fun h => ?_) (fun h => ?_)))
      · refine .seq (rg (g0 (jb false) fun h4 => ?_))
        refine gq (.nsq (.ret ?_))
        have hr := Option.some.inj h
        subst hr
        exact rrA (res_tmp h4) rfl
      refine .skip (.nbk (.nsq (rg (gm h5 fun h15 => g1 15 (ji (w64 (x_5 + 1))) h15 fun h16 => ?_))))
      refine gm h16 fun h5 => gq (.nlp ?_)
      exact ih (w64 (x_5 + 1)) _ ⟨h0, h1, h4, h5⟩ h
    refine .exit (.esq (.elp (.ebk (.nsq (.seq (rg (g0 (jb true) fun h4 => ?_)))))))
    refine gq (.nsq (.ret ?_))
    have hr := Option.some.inj h
    subst hr
    exact rrA (res_tmp h4) rfl
def w_eqIntS (F : Nat) (x_1 : (List Int)) (x_2 : (List Int)) : Option Bool :=
  bif ((x_1.length : Int) != (x_2.length : Int)) then
    some false
  else
    w_eqIntS_l1 F x_1 x_2 F 0
theorem t21 (H : H21 D σ F) (x_1 : (List Int)) (x_2 : (List Int)) (s : Nat → V) (hs : Facts [(0, (eL x_1)), (1, (eL x_2))] s) (h : w_eqIntS F x_1 x_2 = some r) : Run D σ (R21 r) (.run A21 []) s := by
  unfold w_eqIntS at h
  obtain ⟨h0, h1⟩ := hs
  refine .seq (rg (g0 (jb false) fun h4 => ?_))
  refine gq (.nsq (.seq (.seq (rg (gm h0 fun h6 => gv (ji (x_1.length : Int)) (ev_len (xs := x_1) h6) fun h7 => ?_)))))
  refine gm h1 fun h8 => gv (ji (x_2.length : Int)) (ev_len (xs := x_2) h8) fun h9 => ?_
  refine g2 7 9 (jb ((x_1.length : Int) != (x_2.length : Int))) h7 h9 fun h10 => ?_
  refine gq (.nsq (run_cond (t := ((x_1.length : Int) != (x_2.length : Int))) h10 h (fun h => ?_) (fun h => ?_)))
  · refine .seq (rg (g0 (jb false) fun h4 => ?_))
    refine gq (.nsq (.ret ?_))
    have hr := Option.some.inj h
    subst hr
    exact rrA (res_tmp h4) rfl
  refine .skip (.nsq (.seq (.seq (rg (g0 (ji 0) fun h5 => gq (.nsq (.block (.loop ?_))))))))
  exact t_f21_l1 H x_1 x_2 F 0 _ ⟨h0, h1, h4, h5⟩ h
end
def e21 (F : Nat) : Ent := ent 21 (fun (x : ((List Int) × (List Int) × Unit)) => w_eqIntS F x.1 x.2.1) (fun (r : Bool) => (Enc.enc (r : Bool))) 0 false []
theorem p21 {F : Nat} {x0 : (List Int)} {x1 : (List Int)} {r : Bool} (h : w_eqIntS F x0 x1 = some r) : (e21 F).den [Enc.enc x0, Enc.enc x1] = some (Enc.enc (r : Bool)) := ent_put (x0, x1, ()) h
theorem o21 {D : Den} {σ : Sig} {F : Nat} (hF : Fits2 Try.prog D σ) (H : H21 D σ F) : (e21 F).Ok Try.prog := by
  refine ok_of (f := 21) (show unk 21 = 21 from rfl) (fun args r h => ?_) ⟨Try.f21, Try.func21, rfl, rfl⟩
  obtain ⟨⟨x0, x1, _⟩, y, rfl, hy, rfl⟩ := da_open h
  exact contract_run hF (by kernel_rfl) Try.func21 rfl c21 (show 2 ≤ Try.f21.ntmps by decide) (t21 H x0 x1 _ ⟨rfl, rfl⟩ hy)
/- loop.example/g01109/laws.eqIntA2 -/
def A129_2 : AC := (.cond (.t 7) .skip (.exit 0))
def A129_4 : AC := (.cond (.t 16) (.seq (.reg [] [((jv 4 (.mov (.k (.bool false)))))] []) .ret) .skip)
def A129_5 : AC := (.reg [] [(jm 8 5), ((jv 9 (.bin .add (.t 8) (jn 1)))), (jm 5 9)] [])
def A129_3 : AC := (.seq (.block 1 (.seq (.reg [] [(jm 10 5), ((jv 11 (.idxA (.t 2) (.t 10) 2 1))), ((jv 12 (.load .s (.t 11)))), (jm 13 5), ((jv 14 (.idxA (.t 3) (.t 13) 2 1))), ((jv 15 (.load .s (.t 14)))), ((jv 16 (.bin .neq (.t 12) (.t 15))))] []) A129_4)) A129_5)
def A129_1 : AC := (.seq (.seq (.reg [] [(jm 6 5), ((jv 7 (.bin .lss (.t 6) (jn 2))))] []) A129_2) A129_3)
def A129_6 : AC := (.seq (.reg [] [((jv 4 (.mov (.k (.bool true)))))] []) .ret)
def A129_8 : AC := (.block 0 (.loop A129_1))
def A129_7 : AC := (.seq (.seq (.reg [] [((jv 5 (.mov (jn 0))))] []) A129_8) A129_6)
def A129 : AC := (.seq (.reg [.clr [2, 3]] [(.mk (some 2) none false (.box (.t 0))), (.mk (some 3) none false (.box (.t 1))), ((jv 4 (.mov (.k (.bool false)))))] []) A129_7)
def an129 : List An := [{ id := 0, pre := [.clr [2, 3]], ep := [], lin := [], sp := [] }]
theorem c129 : cC Try.prog Try.f129.ntmps an129 (Try.f129.body.getD .skip) = some A129 := by kernel_rfl
structure H129 (D : Den) (σ : Sig) (F : Nat) : Prop where
  mk ::
abbrev R129 (r : Bool) : (Nat → V) → Prop := RR Try.prog [.tmp 4] 0 false (Enc.enc (r : Bool))
section
variable {D : Den} {σ : Sig} {F : Nat} {r : Bool}
def w_eqIntA2_l1 (F : Nat) (x_1 : (Int × Int)) (x_2 : (Int × Int))  : Nat → Int → Option Bool
  | 0, _ => none
  | k + 1, x_3 =>
    bif decide (x_3 < 2) then
      (idx [x_1.1, x_1.2] x_3).bind fun e_6 =>
      (idx [x_2.1, x_2.2] x_3).bind fun e_7 =>
      bif (e_6 != e_7) then
        some false
      else
        (w_eqIntA2_l1 F x_1 x_2 k) (w64 (x_3 + 1))
    else
      some true
theorem t_f129_l1 (H : H129 D σ F) (x_1 : (Int × Int)) (x_2 : (Int × Int))  : ∀ (k : Nat) (x_3 : Int) (s : Nat → V), Facts [(2, (.ref (.bx 2) 0 [] (.agg [(ji x_1.1), (ji x_1.2)]))), (3, (.ref (.bx 3) 0 [] (.agg [(ji x_2.1), (ji x_2.2)]))), (4, (jb false)), (5, (ji x_3))] s → w_eqIntA2_l1 F x_1 x_2 k x_3 = some r → Run D σ (R129 r) (.run A129_1 [.lp A129_1, .bk 0, .sq A129_6]) s := by
  intro k
  induction k with
  | zero => intro x_3 s _ h; exact nomatch (h : (none : Option _) = some r)
  | succ k ih =>
    intro x_3 s hs h
    rw [w_eqIntA2_l1] at h
    obtain ⟨h2, h3, h4, h5⟩ := hs
    refine .seq (.seq (rg (gm h5 fun h6 => g1 6 (jb (decide (x_3 < 2))) h6 fun h7 => ?_)))
    refine gq (.nsq (run_cond (t := decide (x_3 < 2)) h7 h (fun h => ?_) (fun h => ?_)))
    · refine .skip (.nsq (.seq (.block (.seq (rg (gm h5 fun h10 => ?_))))))
      obtain ⟨e_6, E_e_6, h⟩ := bind_some h
      refine gv (.ref (.bx 2) 0 [x_3.toNat] (ji e_6)) (ev_idxA (xs := [x_1.1, x_1.2]) (a := e_6) (n := x_3) (q := []) h2 h10 E_e_6 rfl rfl rfl) fun h11 => ?_
      refine g1 11 (ji e_6) h11 fun h12 => ?_
      refine gm h5 fun h13 => ?_
      obtain ⟨e_7, E_e_7, h⟩ := bind_some h
      refine gv (.ref (.bx 3) 0 [x_3.toNat] (ji e_7)) (ev_idxA (xs := [x_2.1, x_2.2]) (a := e_7) (n := x_3) (q := []) h3 h13 E_e_7 rfl rfl rfl) fun h14 => ?_
      refine g1 14 (ji e_7) h14 fun h15 => ?_
      refine g2 12 15 (jb (e_6 != e_7)) h12 h15 fun h16 => ?_
      refine gq (.nsq (run_cond (t := (e_6 != e_7)) h16 h (fun h => ?_) (fun h => ?_)))
      · refine .seq (rg (g0 (jb false) fun h4 => ?_))
        refine gq (.nsq (.ret ?_))
        have hr := Option.some.inj h
        subst hr
        exact rrA (res_tmp h4) rfl
      refine .skip (.nbk (.nsq (rg (gm h5 fun h8 => g1 8 (ji (w64 (x_3 + 1))) h8 fun h9 => ?_))))
      refine gm h9 fun h5 => gq (.nlp ?_)
      exact ih (w64 (x_3 + 1)) _ ⟨h2, h3, h4, h5⟩ h
    refine .exit (.esq (.elp (.ebk (.nsq (.seq (rg (g0 (jb true) fun h4 => ?_)))))))
    refine gq (.nsq (.ret ?_))
    have hr := Option.some.inj h
    subst hr
    exact rrA (res_tmp h4) rfl
def w_eqIntA2 (F : Nat) (x_1 : (Int × Int)) (x_2 : (Int × Int)) : Option Bool :=
  w_eqIntA2_l1 F x_1 x_2 F 0
theorem t129 (H : H129 D σ F) (x_1 : (Int × Int)) (x_2 : (Int × Int)) (s : Nat → V) (hs : Facts [(0, (.agg [(ji x_1.1), (ji x_1.2)])), (1, (.agg [(ji x_2.1), (ji x_2.2)]))] s) (h : w_eqIntA2 F x_1 x_2 = some r) : Run D σ (R129 r) (.run A129 []) s := by
  unfold w_eqIntA2 at h
  obtain ⟨h0, h1⟩ := hs
  refine .seq (run_reg ?_)
  refine e_clr ?_
  refine ez [(0, _), (1, _), (2, _), (3, _)] ⟨(keep_clear (pk := [2, 3]) h0 rfl (map_agg (maps_cons mi (maps_cons mi maps_nil)))), (keep_clear (pk := [2, 3]) h1 rfl (map_agg (maps_cons mi (maps_cons mi maps_nil)))), (gone_clear (pk := [2, 3]) (t := 2) rfl), (gone_clear (pk := [2, 3]) (t := 3) rfl)⟩ ?_
  rintro s ⟨h0, h1, h2, h3⟩
  refine g_box (.agg [(ji x_1.1), (ji x_1.2)]) (rd_of h0 rfl) h2 rfl ?_
  refine g_box (.agg [(ji x_2.1), (ji x_2.2)]) (rd_of h1 rfl) h3 rfl ?_
  refine g0 (jb false) fun h4 => ?_
  refine gq (.nsq (.seq (.seq (rg (g0 (ji 0) fun h5 => gq (.nsq (.block (.loop ?_))))))))
  exact t_f129_l1 H x_1 x_2 F 0 _ ⟨rfl, rfl, h4, h5⟩ h
end
def e129 (F : Nat) : Ent := ent 129 (fun (x : ((Int × Int) × (Int × Int) × Unit)) => w_eqIntA2 F x.1 x.2.1) (fun (r : Bool) => (Enc.enc (r : Bool))) 0 false []
theorem p129 {F : Nat} {x0 : (Int × Int)} {x1 : (Int × Int)} {r : Bool} (h : w_eqIntA2 F x0 x1 = some r) : (e129 F).den [Enc.enc x0, Enc.enc x1] = some (Enc.enc (r : Bool)) := ent_put (x0, x1, ()) h
theorem o129 {D : Den} {σ : Sig} {F : Nat} (hF : Fits2 Try.prog D σ) (H : H129 D σ F) : (e129 F).Ok Try.prog := by
  refine ok_of (f := 129) (show unk 129 = 129 from rfl) (fun args r h => ?_) ⟨Try.f129, Try.func129, rfl, rfl⟩
  obtain ⟨⟨x0, x1, _⟩, y, rfl, hy, rfl⟩ := da_open h
  exact contract_run hF (by kernel_rfl) Try.func129 rfl c129 (show 2 ≤ Try.f129.ntmps by decide) (t129 H x0 x1 _ ⟨rfl, rfl⟩ hy)
/- loop.example/g01109/laws.eqIntA2S -/
def A68_2 : AC := (.cond (.t 14) .skip (.exit 0))
def A68_4 : AC := (.cond (.t 26) (.seq (.reg [] [((jv 4 (.mov (.k (.bool false)))))] []) .ret) .skip)
def A68_5 : AC := (.reg [] [(jm 15 5), ((jv 16 (.bin .add (.t 15) (jn 1)))), (jm 5 16)] [])
def A68_3 : AC := (.seq (.block 1 (.seq (.reg [] [(jm 17 0), (jm 18 5), ((jv 19 (.idx (.t 17) (.t 18) 2))), ((jv 20 (.load (.ag [.s, .s]) (.t 19)))), (jm 21 1), (jm 22 5), ((jv 23 (.idx (.t 21) (.t 22) 2))), ((jv 24 (.load (.ag [.s, .s]) (.t 23)))), (.mk (some 25) none false (.call (.k (.fn 129 [] [])) [(.t 20), (.t 24)])), ((jv 26 (.un .not (.t 25))))] []) A68_4)) A68_5)
def A68_1 : AC := (.seq (.seq (.reg [] [(jm 11 5), (jm 12 0), ((jv 13 (.len (.t 12)))), ((jv 14 (.bin .lss (.t 11) (.t 13))))] []) A68_2) A68_3)
def A68_6 : AC := (.seq (.reg [] [((jv 4 (.mov (.k (.bool true)))))] []) .ret)
def A68_8 : AC := (.cond (.t 10) (.seq (.reg [] [((jv 4 (.mov (.k (.bool false)))))] []) .ret) .skip)
def A68_10 : AC := (.block 0 (.loop A68_1))
def A68_9 : AC := (.seq (.seq (.reg [] [((jv 5 (.mov (jn 0))))] []) A68_10) A68_6)
def A68_7 : AC := (.seq (.seq (.reg [] [(jm 6 0), ((jv 7 (.len (.t 6)))), (jm 8 1), ((jv 9 (.len (.t 8)))), ((jv 10 (.bin .neq (.t 7) (.t 9))))] []) A68_8) A68_9)
def A68 : AC := (.seq (.reg [] [((jv 4 (.mov (.k (.bool false)))))] []) A68_7)
def an68 : List An := []
theorem c68 : cC Try.prog Try.f68.ntmps an68 (Try.f68.body.getD .skip) = some A68 := by kernel_rfl
structure H68 (D : Den) (σ : Sig) (F : Nat) : Prop where
  c129 : ∀ (x0 : (Int × Int)) (x1 : (Int × Int)) r, w_eqIntA2 F x0 x1 = some r → D 129 [Enc.enc x0, Enc.enc x1] = some (Enc.enc (r : Bool))
  g129 : σ 129 = some (0, false)
abbrev R68 (r : Bool) : (Nat → V) → Prop := RR Try.prog [.tmp 4] 0 false (Enc.enc (r : Bool))
section
variable {D : Den} {σ : Sig} {F : Nat} {r : Bool}
def w_eqIntA2S_l1 (F : Nat) (x_1 : (List (Int × Int))) (x_2 : (List (Int × Int)))  : Nat → Int → Option Bool
  | 0, _ => none
  | k + 1, x_6 =>
    bif decide (x_6 < (x_1.length : Int)) then
      (idx x_1 x_6).bind fun e_10 =>
      (idx x_2 x_6).bind fun e_11 =>
      (w_eqIntA2 F e_10 e_11).bind fun r_12 =>
      bif (!r_12) then
        some false
      else
        (w_eqIntA2S_l1 F x_1 x_2 k) (w64 (x_6 + 1))
    else
      some true
theorem t_f68_l1 (H : H68 D σ F) (x_1 : (List (Int × Int))) (x_2 : (List (Int × Int)))  : ∀ (k : Nat) (x_6 : Int) (s : Nat → V), Facts [(0, (Enc.enc (x_1 : List (Int × Int)))), (1, (Enc.enc (x_2 : List (Int × Int)))), (4, (jb false)), (5, (ji x_6))] s → w_eqIntA2S_l1 F x_1 x_2 k x_6 = some r → Run D σ (R68 r) (.run A68_1 [.lp A68_1, .bk 0, .sq A68_6]) s := by
  intro k
  induction k with
  | zero => intro x_6 s _ h; exact nomatch (h : (none : Option _) = some r)
  | succ k ih =>
    intro x_6 s hs h
    rw [w_eqIntA2S_l1] at h
    obtain ⟨h0, h1, h4, h5⟩ := hs
    refine .seq (.seq (rg (gm h5 fun h11 => gm h0 fun h12 => gv (ji (x_1.length : Int)) (ev_len (xs := x_1) h12) fun h13 => ?_)))
    refine g2 11 13 (jb (decide (x_6 < (x_1.length : Int)))) h11 h13 fun h14 => ?_
    refine gq (.nsq (run_cond (t := decide (x_6 < (x_1.length : Int))) h14 h (fun h => ?_) (fun h => ?_)))
    · refine .skip (.nsq (.seq (.block (.seq (rg (gm h0 fun h17 => gm h5 fun h18 => ?_))))))
      obtain ⟨e_10, E_e_10, h⟩ := bind_some h
      refine gv (.ref .sh 0 [] (.agg [(ji e_10.1), (ji e_10.2)])) (ev_idx (t := .sh) (lo := 0) (xs := x_1) h17 h18 E_e_10 rfl rfl) fun h19 => ?_
      refine g1 19 (.agg [(ji e_10.1), (ji e_10.2)]) h19 fun h20 => ?_
      refine gm h1 fun h21 => gm h5 fun h22 => ?_
      obtain ⟨e_11, E_e_11, h⟩ := bind_some h
      refine gv (.ref .sh 0 [] (.agg [(ji e_11.1), (ji e_11.2)])) (ev_idx (t := .sh) (lo := 0) (xs := x_2) h21 h22 E_e_11 rfl rfl) fun h23 => ?_
      refine g1 23 (.agg [(ji e_11.1), (ji e_11.2)]) h23 fun h24 => ?_
      obtain ⟨r_12, E_r_12, h⟩ := bind_some h
      refine g_call (m := 0) (al := false) (r := (Enc.enc (r_12 : Bool))) [Enc.enc (e_10 : (Int × Int)), Enc.enc (e_11 : (Int × Int))] (ta_cons (v := (.agg [(ji e_10.1), (ji e_10.2)])) h20 rfl (Enc.erase_enc (e_10 : (Int × Int))) (ta_cons (v := (.agg [(ji e_11.1), (ji e_11.2)])) h24 rfl (Enc.erase_enc (e_11 : (Int × Int))) ta_nil)) (H.c129 _ _ _ E_r_12) H.g129 rfl rfl rfl rfl ?_
      refine g1 25 (jb (!r_12)) (rfl : (_ : V) = (jb r_12)) fun h26 => ?_
      refine gq (.nsq (run_cond (t := (!r_12)) h26 h (fun h => ?_) (fun h => ?_)))
      · refine .seq (rg (g0 (jb false) fun h4 => ?_))
        refine gq (.nsq (.ret ?_))
        have hr := Option.some.inj h
        subst hr
        exact rrA (res_tmp h4) rfl
      refine .skip (.nbk (.nsq (rg (gm h5 fun h15 => g1 15 (ji (w64 (x_6 + 1))) h15 fun h16 => ?_))))
      refine gm h16 fun h5 => gq (.nlp ?_)
      exact ih (w64 (x_6 + 1)) _ ⟨h0, h1, h4, h5⟩ h
    refine .exit (.esq (.elp (.ebk (.nsq (.seq (rg (g0 (jb true) fun h4 => ?_)))))))
    refine gq (.nsq (.ret ?_))
    have hr := Option.some.inj h
    subst hr
    exact rrA (res_tmp h4) rfl
def w_eqIntA2S (F : Nat) (x_1 : (List (Int × Int))) (x_2 : (List (Int × Int))) : Option Bool :=
  bif ((x_1.length : Int) != (x_2.length : Int)) then
    some false
  else
    w_eqIntA2S_l1 F x_1 x_2 F 0
theorem t68 (H : H68 D σ F) (x_1 : (List (Int × Int))) (x_2 : (List (Int × Int))) (s : Nat → V) (hs : Facts [(0, (Enc.enc (x_1 : List (Int × Int)))), (1, (Enc.enc (x_2 : List (Int × Int))))] s) (h : w_eqIntA2S F x_1 x_2 = some r) : Run D σ (R68 r) (.run A68 []) s := by
  unfold w_eqIntA2S at h
  obtain ⟨h0, h1⟩ := hs
  refine .seq (rg (g0 (jb false) fun h4 => ?_))
  refine gq (.nsq (.seq (.seq (rg (gm h0 fun h6 => gv (ji (x_1.length : Int)) (ev_len (xs := x_1) h6) fun h7 => ?_)))))
  refine gm h1 fun h8 => gv (ji (x_2.length : Int)) (ev_len (xs := x_2) h8) fun h9 => ?_
  refine g2 7 9 (jb ((x_1.length : Int) != (x_2.length : Int))) h7 h9 fun h10 => ?_
  refine gq (.nsq (run_cond (t := ((x_1.length : Int) != (x_2.length : Int))) h10 h (fun h => ?_) (fun h => ?_)))
  · refine .seq (rg (g0 (jb false) fun h4 => ?_))
    refine gq (.nsq (.ret ?_))
    have hr := Option.some.inj h
    subst hr
    exact rrA (res_tmp h4) rfl
  refine .skip (.nsq (.seq (.seq (rg (g0 (ji 0) fun h5 => gq (.nsq (.block (.loop ?_))))))))
  exact t_f68_l1 H x_1 x_2 F 0 _ ⟨h0, h1, h4, h5⟩ h
end
def e68 (F : Nat) : Ent := ent 68 (fun (x : ((List (Int × Int)) × (List (Int × Int)) × Unit)) => w_eqIntA2S F x.1 x.2.1) (fun (r : Bool) => (Enc.enc (r : Bool))) 0 false []
theorem p68 {F : Nat} {x0 : (List (Int × Int))} {x1 : (List (Int × Int))} {r : Bool} (h : w_eqIntA2S F x0 x1 = some r) : (e68 F).den [Enc.enc x0, Enc.enc x1] = some (Enc.enc (r : Bool)) := ent_put (x0, x1, ()) h
theorem o68 {D : Den} {σ : Sig} {F : Nat} (hF : Fits2 Try.prog D σ) (H : H68 D σ F) : (e68 F).Ok Try.prog := by
  refine ok_of (f := 68) (show unk 68 = 68 from rfl) (fun args r h => ?_) ⟨Try.f68, Try.func68, rfl, rfl⟩
  obtain ⟨⟨x0, x1, _⟩, y, rfl, hy, rfl⟩ := da_open h
  exact contract_run hF (by kernel_rfl) Try.func68 rfl c68 (show 2 ≤ Try.f68.ntmps by decide) (t68 H x0 x1 _ ⟨rfl, rfl⟩ hy)
/- loop.example/g01109/laws.eqGraph -/
def A20_2 : AC := (.cond (.t 9) (.seq (.reg [] [((jv 4 (.mov (.k (.bool false)))))] []) .ret) .skip)
def A20_4 : AC := (.cond (.t 15) (.seq (.reg [] [((jv 4 (.mov (.k (.bool false)))))] []) .ret) .skip)
def A20_5 : AC := (.seq (.reg [] [((jv 4 (.mov (.k (.bool true)))))] []) .ret)
def A20_3 : AC := (.seq (.seq (.reg [] [((jv 10 (.fld (.t 2) 1 1))), ((jv 11 (.load .p (.t 10)))), ((jv 12 (.fld (.t 3) 1 1))), ((jv 13 (.load .p (.t 12)))), (.mk (some 14) none false (.call (.k (.fn 68 [] [])) [(.t 11), (.t 13)])), ((jv 15 (.un .not (.t 14))))] []) A20_4) A20_5)
def A20_1 : AC := (.seq (.seq (.reg [] [((jv 5 (.fld (.t 2) 0 0))), ((jv 6 (.load .s (.t 5)))), ((jv 7 (.fld (.t 3) 0 0))), ((jv 8 (.load .s (.t 7)))), ((jv 9 (.bin .neq (.t 6) (.t 8))))] []) A20_2) A20_3)
def A20 : AC := (.seq (.reg [.clr [2, 3]] [(.mk (some 2) none false (.box (.t 0))), (.mk (some 3) none false (.box (.t 1))), ((jv 4 (.mov (.k (.bool false)))))] []) A20_1)
def an20 : List An := [{ id := 0, pre := [.clr [2, 3]], ep := [], lin := [], sp := [] }]
theorem c20 : cC Try.prog Try.f20.ntmps an20 (Try.f20.body.getD .skip) = some A20 := by kernel_rfl
structure H20 (D : Den) (σ : Sig) (F : Nat) : Prop where
  c68 : ∀ (x0 : (List (Int × Int))) (x1 : (List (Int × Int))) r, w_eqIntA2S F x0 x1 = some r → D 68 [Enc.enc x0, Enc.enc x1] = some (Enc.enc (r : Bool))
  g68 : σ 68 = some (0, false)
abbrev R20 (r : Bool) : (Nat → V) → Prop := RR Try.prog [.tmp 4] 0 false (Enc.enc (r : Bool))
section
variable {D : Den} {σ : Sig} {F : Nat} {r : Bool}
def w_eqGraph (F : Nat) (x_1 : (Int × (List (Int × Int)))) (x_2 : (Int × (List (Int × Int)))) : Option Bool :=
  bif (x_1.1 != x_2.1) then
    some false
  else
    (w_eqIntA2S F x_1.2 x_2.2).bind fun r_3 =>
    bif (!r_3) then
      some false
    else
      some true
theorem t20 (H : H20 D σ F) (x_1 : (Int × (List (Int × Int)))) (x_2 : (Int × (List (Int × Int)))) (s : Nat → V) (hs : Facts [(0, (.agg [(ji x_1.1), (Enc.enc (x_1.2 : List (Int × Int)))])), (1, (.agg [(ji x_2.1), (Enc.enc (x_2.2 : List (Int × Int)))]))] s) (h : w_eqGraph F x_1 x_2 = some r) : Run D σ (R20 r) (.run A20 []) s := by
  unfold w_eqGraph at h
  obtain ⟨h0, h1⟩ := hs
  refine .seq (run_reg ?_)
  refine e_clr ?_
  refine ez [(0, _), (1, _), (2, _), (3, _)] ⟨(keep_clear (pk := [2, 3]) h0 rfl (map_agg (maps_cons mi (maps_cons me maps_nil)))), (keep_clear (pk := [2, 3]) h1 rfl (map_agg (maps_cons mi (maps_cons me maps_nil)))), (gone_clear (pk := [2, 3]) (t := 2) rfl), (gone_clear (pk := [2, 3]) (t := 3) rfl)⟩ ?_
  rintro s ⟨h0, h1, h2, h3⟩
  refine g_box (.agg [(ji x_1.1), (Enc.enc (x_1.2 : List (Int × Int)))]) (rd_of h0 rfl) h2 rfl ?_
  refine g_box (.agg [(ji x_2.1), (Enc.enc (x_2.2 : List (Int × Int)))]) (rd_of h1 rfl) h3 rfl ?_
  refine g0 (jb false) fun h4 => ?_
  refine gq (.nsq (.seq (.seq (rg (g1 2 (.ref (.bx 2) 0 [0] (ji x_1.1)) (rfl : (_ : V) = (.ref (.bx 2) 0 [] (.agg [(ji x_1.1), (Enc.enc (x_1.2 : List (Int × Int)))]))) fun h5 => ?_)))))
  refine g1 5 (ji x_1.1) h5 fun h6 => ?_
  refine g1 3 (.ref (.bx 3) 0 [0] (ji x_2.1)) (rfl : (_ : V) = (.ref (.bx 3) 0 [] (.agg [(ji x_2.1), (Enc.enc (x_2.2 : List (Int × Int)))]))) fun h7 => ?_
  refine g1 7 (ji x_2.1) h7 fun h8 => ?_
  refine g2 6 8 (jb (x_1.1 != x_2.1)) h6 h8 fun h9 => ?_
  refine gq (.nsq (run_cond (t := (x_1.1 != x_2.1)) h9 h (fun h => ?_) (fun h => ?_)))
  · refine .seq (rg (g0 (jb false) fun h4 => ?_))
    refine gq (.nsq (.ret ?_))
    have hr := Option.some.inj h
    subst hr
    exact rrA (res_tmp h4) rfl
  refine .skip (.nsq (.seq (.seq (rg (g1 2 (.ref (.bx 2) 0 [1] (Enc.enc (x_1.2 : List (Int × Int)))) (rfl : (_ : V) = (.ref (.bx 2) 0 [] (.agg [(ji x_1.1), (Enc.enc (x_1.2 : List (Int × Int)))]))) fun h10 => ?_)))))
  refine g1 10 (Enc.enc (x_1.2 : List (Int × Int))) h10 fun h11 => ?_
  refine g1 3 (.ref (.bx 3) 0 [1] (Enc.enc (x_2.2 : List (Int × Int)))) (rfl : (_ : V) = (.ref (.bx 3) 0 [] (.agg [(ji x_2.1), (Enc.enc (x_2.2 : List (Int × Int)))]))) fun h12 => ?_
  refine g1 12 (Enc.enc (x_2.2 : List (Int × Int))) h12 fun h13 => ?_
  obtain ⟨r_3, E_r_3, h⟩ := bind_some h
  refine g_call (m := 0) (al := false) (r := (Enc.enc (r_3 : Bool))) [Enc.enc (x_1.2 : (List (Int × Int))), Enc.enc (x_2.2 : (List (Int × Int)))] (ta_cons (v := (Enc.enc (x_1.2 : List (Int × Int)))) h11 rfl (Enc.erase_enc (x_1.2 : (List (Int × Int)))) (ta_cons (v := (Enc.enc (x_2.2 : List (Int × Int)))) h13 rfl (Enc.erase_enc (x_2.2 : (List (Int × Int)))) ta_nil)) (H.c68 _ _ _ E_r_3) H.g68 rfl rfl rfl rfl ?_
  refine g1 14 (jb (!r_3)) (rfl : (_ : V) = (jb r_3)) fun h15 => ?_
  refine gq (.nsq (run_cond (t := (!r_3)) h15 h (fun h => ?_) (fun h => ?_)))
  · refine .seq (rg (g0 (jb false) fun h4 => ?_))
    refine gq (.nsq (.ret ?_))
    have hr := Option.some.inj h
    subst hr
    exact rrA (res_tmp h4) rfl
  refine .skip (.nsq (.seq (rg (g0 (jb true) fun h4 => ?_))))
  refine gq (.nsq (.ret ?_))
  have hr := Option.some.inj h
  subst hr
  exact rrA (res_tmp h4) rfl
end
def e20 (F : Nat) : Ent := ent 20 (fun (x : ((Int × (List (Int × Int))) × (Int × (List (Int × Int))) × Unit)) => w_eqGraph F x.1 x.2.1) (fun (r : Bool) => (Enc.enc (r : Bool))) 0 false []
theorem p20 {F : Nat} {x0 : (Int × (List (Int × Int)))} {x1 : (Int × (List (Int × Int)))} {r : Bool} (h : w_eqGraph F x0 x1 = some r) : (e20 F).den [Enc.enc x0, Enc.enc x1] = some (Enc.enc (r : Bool)) := ent_put (x0, x1, ()) h
theorem o20 {D : Den} {σ : Sig} {F : Nat} (hF : Fits2 Try.prog D σ) (H : H20 D σ F) : (e20 F).Ok Try.prog := by
  refine ok_of (f := 20) (show unk 20 = 20 from rfl) (fun args r h => ?_) ⟨Try.f20, Try.func20, rfl, rfl⟩
  obtain ⟨⟨x0, x1, _⟩, y, rfl, hy, rfl⟩ := da_open h
  exact contract_run hF (by kernel_rfl) Try.func20 rfl c20 (show 2 ≤ Try.f20.ntmps by decide) (t20 H x0 x1 _ ⟨rfl, rfl⟩ hy)
/- loop.example/g01109/laws.eqIntSS -/
def A29_2 : AC := (.cond (.t 14) .skip (.exit 0))
def A29_4 : AC := (.cond (.t 26) (.seq (.reg [] [((jv 4 (.mov (.k (.bool false)))))] []) .ret) .skip)
def A29_5 : AC := (.reg [] [(jm 15 5), ((jv 16 (.bin .add (.t 15) (jn 1)))), (jm 5 16)] [])
def A29_3 : AC := (.seq (.block 1 (.seq (.reg [] [(jm 17 0), (jm 18 5), ((jv 19 (.idx (.t 17) (.t 18) 1))), ((jv 20 (.load .p (.t 19)))), (jm 21 1), (jm 22 5), ((jv 23 (.idx (.t 21) (.t 22) 1))), ((jv 24 (.load .p (.t 23)))), (.mk (some 25) none false (.call (.k (.fn 21 [] [])) [(.t 20), (.t 24)])), ((jv 26 (.un .not (.t 25))))] []) A29_4)) A29_5)
def A29_1 : AC := (.seq (.seq (.reg [] [(jm 11 5), (jm 12 0), ((jv 13 (.len (.t 12)))), ((jv 14 (.bin .lss (.t 11) (.t 13))))] []) A29_2) A29_3)
def A29_6 : AC := (.seq (.reg [] [((jv 4 (.mov (.k (.bool true)))))] []) .ret)
def A29_8 : AC := (.cond (.t 10) (.seq (.reg [] [((jv 4 (.mov (.k (.bool false)))))] []) .ret) .skip)
def A29_10 : AC := (.block 0 (.loop A29_1))
def A29_9 : AC := (.seq (.seq (.reg [] [((jv 5 (.mov (jn 0))))] []) A29_10) A29_6)
def A29_7 : AC := (.seq (.seq (.reg [] [(jm 6 0), ((jv 7 (.len (.t 6)))), (jm 8 1), ((jv 9 (.len (.t 8)))), ((jv 10 (.bin .neq (.t 7) (.t 9))))] []) A29_8) A29_9)
def A29 : AC := (.seq (.reg [] [((jv 4 (.mov (.k (.bool false)))))] []) A29_7)
def an29 : List An := []
theorem c29 : cC Try.prog Try.f29.ntmps an29 (Try.f29.body.getD .skip) = some A29 := by kernel_rfl
structure H29 (D : Den) (σ : Sig) (F : Nat) : Prop where
  c21 : ∀ (x0 : (List Int)) (x1 : (List Int)) r, w_eqIntS F x0 x1 = some r → D 21 [Enc.enc x0, Enc.enc x1] = some (Enc.enc (r : Bool))
  g21 : σ 21 = some (0, false)
abbrev R29 (r : Bool) : (Nat → V) → Prop := RR Try.prog [.tmp 4] 0 false (Enc.enc (r : Bool))
section
variable {D : Den} {σ : Sig} {F : Nat} {r : Bool}
def w_eqIntSS_l1 (F : Nat) (x_1 : (List (List Int))) (x_2 : (List (List Int)))  : Nat → Int → Option Bool
  | 0, _ => none
  | k + 1, x_6 =>
    bif decide (x_6 < (x_1.length : Int)) then
      (idx x_1 x_6).bind fun e_10 =>
      (idx x_2 x_6).bind fun e_11 =>
      (w_eqIntS F e_10 e_11).bind fun r_12 =>
      bif (!r_12) then
        some false
      else
        (w_eqIntSS_l1 F x_1 x_2 k) (w64 (x_6 + 1))
    else
      some true
theorem t_f29_l1 (H : H29 D σ F) (x_1 : (List (List Int))) (x_2 : (List (List Int)))  : ∀ (k : Nat) (x_6 : Int) (s : Nat → V), Facts [(0, (Enc.enc (x_1 : List (List Int)))), (1, (Enc.enc (x_2 : List (List Int)))), (4, (jb false)), (5, (ji x_6))] s → w_eqIntSS_l1 F x_1 x_2 k x_6 = some r → Run D σ (R29 r) (.run A29_1 [.lp A29_1, .bk 0, .sq A29_6]) s := by
  intro k
  induction k with
  | zero => intro x_6 s _ h; exact nomatch (h : (none : Option _) = some r)
  | succ k ih =>
    intro x_6 s hs h
    rw [w_eqIntSS_l1] at h
    obtain ⟨h0, h1, h4, h5⟩ := hs
    refine .seq (.seq (rg (gm h5 fun h11 => gm h0 fun h12 => gv (ji (x_1.length : Int)) (ev_len (xs := x_1) h12) fun h13 => ?_)))
    refine g2 11 13 (jb (decide (x_6 < (x_1.length : Int)))) h11 h13 fun h14 => ?_
    refine gq (.nsq (run_cond (t := decide (x_6 < (x_1.length : Int))) h14 h (fun h => ?_) (fun h => ?_)))
    · refine .skip (.nsq (.seq (.block (.seq (rg (gm h0 fun h17 => gm h5 fun h18 => ?_))))))
      obtain ⟨e_10, E_e_10, h⟩ := bind_some h
      refine gv (.ref .sh 0 [] (eL e_10)) (ev_idx (t := .sh) (lo := 0) (xs := x_1) h17 h18 E_e_10 rfl rfl) fun h19 => ?_
      refine g1 19 (eL e_10) h19 fun h20 => ?_
      refine gm h1 fun h21 => gm h5 fun h22 => ?_
      obtain ⟨e_11, E_e_11, h⟩ := bind_some h
      refine gv (.ref .sh 0 [] (eL e_11)) (ev_idx (t := .sh) (lo := 0) (xs := x_2) h21 h22 E_e_11 rfl rfl) fun h23 => ?_
      refine g1 23 (eL e_11) h23 fun h24 => ?_
      obtain ⟨r_12, E_r_12, h⟩ := bind_some h
      refine g_call (m := 0) (al := false) (r := (Enc.enc (r_12 : Bool))) [Enc.enc (e_10 : (List Int)), Enc.enc (e_11 : (List Int))] (ta_cons (v := (eL e_10)) h20 rfl (Enc.erase_enc (e_10 : (List Int))) (ta_cons (v := (eL e_11)) h24 rfl (Enc.erase_enc (e_11 : (List Int))) ta_nil)) (H.c21 _ _ _ E_r_12) H.g21 rfl rfl rfl rfl ?_
      refine g1 25 (jb (!r_12)) (rfl : (_ : V) = (jb r_12)) fun h26 => ?_
      refine gq (.nsq (run_cond (t := (!r_12)) h26 h (fun h => ?_) (fun h => ?_)))
      · refine .seq (rg (g0 (jb false) fun h4 => ?_))
        refine gq (.nsq (.ret ?_))
        have hr := Option.some.inj h
        subst hr
        exact rrA (res_tmp h4) rfl
      refine .skip (.nbk (.nsq (rg (gm h5 fun h15 => g1 15 (ji (w64 (x_6 + 1))) h15 fun h16 => ?_))))
      refine gm h16 fun h5 => gq (.nlp ?_)
      exact ih (w64 (x_6 + 1)) _ ⟨h0, h1, h4, h5⟩ h
    refine .exit (.esq (.elp (.ebk (.nsq (.seq (rg (g0 (jb true) fun h4 => ?_)))))))
    refine gq (.nsq (.ret ?_))
    have hr := Option.some.inj h
    subst hr
    exact rrA (res_tmp h4) rfl
def w_eqIntSS (F : Nat) (x_1 : (List (List Int))) (x_2 : (List (List Int))) : Option Bool :=
  bif ((x_1.length : Int) != (x_2.length : Int)) then
    some false
  else
    w_eqIntSS_l1 F x_1 x_2 F 0
theorem t29 (H : H29 D σ F) (x_1 : (List (List Int))) (x_2 : (List (List Int))) (s : Nat → V) (hs : Facts [(0, (Enc.enc (x_1 : List (List Int)))), (1, (Enc.enc (x_2 : List (List Int))))] s) (h : w_eqIntSS F x_1 x_2 = some r) : Run D σ (R29 r) (.run A29 []) s := by
  unfold w_eqIntSS at h
  obtain ⟨h0, h1⟩ := hs
  refine .seq (rg (g0 (jb false) fun h4 => ?_))
  refine gq (.nsq (.seq (.seq (rg (gm h0 fun h6 => gv (ji (x_1.length : Int)) (ev_len (xs := x_1) h6) fun h7 => ?_)))))
  refine gm h1 fun h8 => gv (ji (x_2.length : Int)) (ev_len (xs := x_2) h8) fun h9 => ?_
  refine g2 7 9 (jb ((x_1.length : Int) != (x_2.length : Int))) h7 h9 fun h10 => ?_
  refine gq (.nsq (run_cond (t := ((x_1.length : Int) != (x_2.length : Int))) h10 h (fun h => ?_) (fun h => ?_)))
  · refine .seq (rg (g0 (jb false) fun h4 => ?_))
    refine gq (.nsq (.ret ?_))
    have hr := Option.some.inj h
    subst hr
    exact rrA (res_tmp h4) rfl
  refine .skip (.nsq (.seq (.seq (rg (g0 (ji 0) fun h5 => gq (.nsq (.block (.loop ?_))))))))
  exact t_f29_l1 H x_1 x_2 F 0 _ ⟨h0, h1, h4, h5⟩ h
end
def e29 (F : Nat) : Ent := ent 29 (fun (x : ((List (List Int)) × (List (List Int)) × Unit)) => w_eqIntSS F x.1 x.2.1) (fun (r : Bool) => (Enc.enc (r : Bool))) 0 false []
theorem p29 {F : Nat} {x0 : (List (List Int))} {x1 : (List (List Int))} {r : Bool} (h : w_eqIntSS F x0 x1 = some r) : (e29 F).den [Enc.enc x0, Enc.enc x1] = some (Enc.enc (r : Bool)) := ent_put (x0, x1, ()) h
theorem o29 {D : Den} {σ : Sig} {F : Nat} (hF : Fits2 Try.prog D σ) (H : H29 D σ F) : (e29 F).Ok Try.prog := by
  refine ok_of (f := 29) (show unk 29 = 29 from rfl) (fun args r h => ?_) ⟨Try.f29, Try.func29, rfl, rfl⟩
  obtain ⟨⟨x0, x1, _⟩, y, rfl, hy, rfl⟩ := da_open h
  exact contract_run hF (by kernel_rfl) Try.func29 rfl c29 (show 2 ≤ Try.f29.ntmps by decide) (t29 H x0 x1 _ ⟨rfl, rfl⟩ hy)
/- loop.example/g01109/laws.toIntA2S -/
def A62o_2 : AC := (.cond (.t 11) .skip (.exit 0))
def A62o_4 : AC := (.reg [] [(jm 12 4), ((jv 13 (.bin .add (.t 12) (jn 1)))), (jm 4 13)] [])
def A62o_3 : AC := (.seq (.block 1 (.reg [] [(jm 14 3), (jm 15 4), (jm 16 0), (jm 17 4), ((jv 18 (.idx (.t 16) (.t 17) 2))), ((jv 19 (.load (.ag [.s, .s]) (.t 18)))), (.mk (some 20) none false (.call (.k (.fn 123 [] [])) [(.t 19)])), ((jv 21 (.idx (.t 14) (.t 15) 2))), (.mk none none false (.store (.ag [.s, .s]) (.t 21) (.t 20)))] [])) A62o_4)
def A62o_1 : AC := (.seq (.seq (.reg [] [(jm 8 4), (jm 9 0), ((jv 10 (.len (.t 9)))), ((jv 11 (.bin .lss (.t 8) (.t 10))))] []) A62o_2) A62o_3)
def A62o_5 : AC := (.seq (.reg [] [(jm 22 3), (jm 2 22)] [.home 3 2]) .ret)
def A62o_8 : AC := (.block 0 (.loop A62o_1))
def A62o_7 : AC := (.seq (.seq (.reg [] [((jv 4 (.mov (jn 0))))] []) A62o_8) A62o_5)
def A62o_6 : AC := (.seq (.reg [.clr [7]] [(jm 5 0), ((jv 6 (.len (.t 5)))), (.mk (some 7) none false (.mk (.t 6) (.agg [(.int .i64 (.ofNat 0)), (.int .i64 (.ofNat 0))]) (.agg [(.int .i64 (.ofNat 0)), (.int .i64 (.ofNat 0))]))), (jm 3 7)] [.home 7 3]) A62o_7)
def A62o : AC := (.seq (.reg [] [((jv 2 (.mov (.k (.sl .nl (.ag [.s, .s]) 0 [])))))] []) A62o_6)
def an62o : List An := [{ id := 1, pre := [.clr [7]], ep := [.home 7 3], lin := [], sp := [] }, { id := 6, pre := [], ep := [.home 3 2], lin := [], sp := [] }]
theorem c62o : cC Try.prog Try.f62.ntmps an62o (Try.f62.body.getD .skip) = some A62o := by kernel_rfl
structure H62o (D : Den) (σ : Sig) (F : Nat) : Prop where
  c123 : ∀ (x0 : (Int × Int)) r, w_toIntA2 F x0 = some r → D 123 [Enc.enc x0] = some (Enc.enc (r : (Int × Int)))
  g123 : σ 123 = some (0, false)
abbrev R62o (r : (NL (Int × Int))) : (Nat → V) → Prop := RR Try.prog [.tmp 2] 1 false (encO .sh (r : NL (Int × Int)))
section
variable {D : Den} {σ : Sig} {F : Nat} {r : (NL (Int × Int))}
def w_toIntA2S_o_l1 (F : Nat) (x_1 : (List (Int × Int)))  : Nat → (List (Int × Int)) → Int → Option (NL (Int × Int))
  | 0, _, _ => none
  | k + 1, x_6, x_7 =>
    bif decide (x_7 < (x_1.length : Int)) then
      (idx x_1 x_7).bind fun e_11 =>
      (w_toIntA2 F e_11).bind fun r_12 =>
      (idx x_6 x_7).bind fun e_13 =>
      (w_toIntA2S_o_l1 F x_1 k) (x_6.set x_7.toNat r_12) (w64 (x_7 + 1))
    else
      some (.of x_6)
theorem t_f62o_l1 (H : H62o D σ F) (x_1 : (List (Int × Int)))  : ∀ (k : Nat) (x_6 : (List (Int × Int))) (x_7 : Int) (s : Nat → V), Facts [(0, (Enc.enc (x_1 : List (Int × Int)))), (2, (.sl .nl (Enc.shp (Int × Int)) 0 [])), (3, (encO (.at 3 []) (.of (x_6 : List (Int × Int))))), (4, (ji x_7))] s → w_toIntA2S_o_l1 F x_1 k x_6 x_7 = some r → Run D σ (R62o r) (.run A62o_1 [.lp A62o_1, .bk 0, .sq A62o_5]) s := by
  intro k
  induction k with
  | zero => intro x_6 x_7 s _ h; exact nomatch (h : (none : Option _) = some r)
  | succ k ih =>
    intro x_6 x_7 s hs h
    rw [w_toIntA2S_o_l1] at h
    obtain ⟨h0, h2, h3, h4⟩ := hs
    refine .seq (.seq (rg (gm h4 fun h8 => gm h0 fun h9 => gv (ji (x_1.length : Int)) (ev_len (xs := x_1) h9) fun h10 => ?_)))
    refine g2 8 10 (jb (decide (x_7 < (x_1.length : Int)))) h8 h10 fun h11 => ?_
    refine gq (.nsq (run_cond (t := decide (x_7 < (x_1.length : Int))) h11 h (fun h => ?_) (fun h => ?_)))
    · refine .skip (.nsq (.seq (.block (rg (gm h3 fun h14 => gm h4 fun h15 => gm h0 fun h16 => gm h4 fun h17 => ?_)))))
      obtain ⟨e_11, E_e_11, h⟩ := bind_some h
      refine gv (.ref .sh 0 [] (.agg [(ji e_11.1), (ji e_11.2)])) (ev_idx (t := .sh) (lo := 0) (xs := x_1) h16 h17 E_e_11 rfl rfl) fun h18 => ?_
      refine g1 18 (.agg [(ji e_11.1), (ji e_11.2)]) h18 fun h19 => ?_
      obtain ⟨r_12, E_r_12, h⟩ := bind_some h
      refine g_call (m := 0) (al := false) (r := (Enc.enc (r_12 : (Int × Int)))) [Enc.enc (e_11 : (Int × Int))] (ta_cons (v := (.agg [(ji e_11.1), (ji e_11.2)])) h19 rfl (Enc.erase_enc (e_11 : (Int × Int))) ta_nil) (H.c123 _ _ E_r_12) H.g123 rfl rfl rfl rfl ?_
      obtain ⟨e_13, E_e_13, h⟩ := bind_some h
      refine gv (.ref (.at 3 []) x_7.toNat [] (.agg [(ji e_13.1), (ji e_13.2)])) (ev_idxO (o := (.of x_6)) h14 h15 E_e_13 rfl) fun h21 => ?_
      refine g_store (.agg [(ji r_12.1), (ji r_12.2)]) (rd_of h21 rfl) (rd_of rfl rfl) (by refine ⟨by decide, by decide, rfl, rfl, rfl, ?_⟩; first | rfl | simp [V.toks, V.tokss, Enc.toks_enc]) ?_
      refine gz [(0, (Enc.enc (x_1 : List (Int × Int)))), (2, (.sl .nl (Enc.shp (Int × Int)) 0 [])), (3, _), (4, (ji x_7))] ⟨(keep_mut h0 (Enc.mut_enc _ _ _ _ (x_1 : List (Int × Int)))), (keep_mut h2 rfl), (keep_mut h3 mut_own), (keep_mut h4 rfl)⟩ ?_
      rintro s ⟨h0, h2, h3, h4⟩
      refine .nbk (.nsq (rg (gm h4 fun h12 => g1 12 (ji (w64 (x_7 + 1))) h12 fun h13 => ?_)))
      refine gm h13 fun h4 => gq (.nlp ?_)
      exact ih (x_6.set x_7.toNat r_12) (w64 (x_7 + 1)) _ ⟨h0, h2, h3, h4⟩ h
    refine .exit (.esq (.elp (.ebk (.nsq (.seq (rg (gm h3 fun h22 => gm h22 fun h2 => g_end ?_)))))))
    refine e_home (r := 3) (x := 2) (v := _) h2 rfl (fun s_3 hg_3 => ?_)
    refine ez [(2, (encO (.at 2 []) (.of (x_6 : List (Int × Int)))))] (hg_3 2 _ _ h2 (map_encO (r := 3) (p := []) rfl rfl)) ?_
    rintro s h2
    refine .nsq (.ret ?_)
    have hr := Option.some.inj h
    subst hr
    exact rrA (res_tmp h2) (fin_retO (finO_own (o := ((.of x_6) : NL (Int × Int)))) rfl (mine_own rfl))
def w_toIntA2S_o (F : Nat) (x_1 : (List (Int × Int))) : Option (NL (Int × Int)) :=
  (mkN (x_1.length : Int) (0, 0)).bind fun mk_2 =>
  w_toIntA2S_o_l1 F x_1 F mk_2 0
theorem t62o (H : H62o D σ F) (x_1 : (List (Int × Int))) (s : Nat → V) (hs : Facts [(0, (Enc.enc (x_1 : List (Int × Int))))] s) (h : w_toIntA2S_o F x_1 = some r) : Run D σ (R62o r) (.run A62o []) s := by
  unfold w_toIntA2S_o at h
  have h0 := hs
  refine .seq (rg (g0 (.sl .nl (Enc.shp (Int × Int)) 0 []) fun h2 => ?_))
  refine gq (.nsq (.seq (run_reg ?_)))
  refine e_clr ?_
  refine ez [(0, _), (2, _), (7, _)] ⟨(keep_clear (pk := [7]) h0 rfl me), (keep_clear (pk := [7]) h2 rfl rfl), (gone_clear (pk := [7]) (t := 7) rfl)⟩ ?_
  rintro s ⟨h0, h2, h7⟩
  refine gm h0 fun h5 => gv (ji (x_1.length : Int)) (ev_len (xs := x_1) h5) fun h6 => ?_
  obtain ⟨mk_2, E_mk_2, h⟩ := bind_some h
  refine g_mk ((0, 0) : (Int × Int)) h6 rfl h7 E_mk_2 ?_
  refine gm (rfl : (_ : V) = (encO (.at 7 []) (.of (mk_2 : List (Int × Int))))) fun h3 => ?_
  refine g_end ?_
  refine e_home (r := 7) (x := 3) (v := _) h3 rfl (fun s_2 hg_2 => ?_)
  refine ez [(0, (Enc.enc (x_1 : List (Int × Int)))), (2, (.sl .nl (Enc.shp (Int × Int)) 0 [])), (3, (encO (.at 3 []) (.of (mk_2 : List (Int × Int)))))] ⟨(hg_2 0 _ _ h0 me), (hg_2 2 _ (.sl .nl (Enc.shp (Int × Int)) 0 []) h2 rfl), (hg_2 3 _ _ h3 (map_encO (r := 7) (p := []) rfl rfl))⟩ ?_
  rintro s ⟨h0, h2, h3⟩
  refine .nsq (.seq (.seq (rg (g0 (ji 0) fun h4 => gq (.nsq (.block (.loop ?_)))))))
  exact t_f62o_l1 H x_1 F mk_2 0 _ ⟨h0, h2, h3, h4⟩ h
end
def e62o (F : Nat) : Ent := ent 1000000062 (fun (x : ((List (Int × Int)) × Unit)) => w_toIntA2S_o F x.1) (fun (r : (NL (Int × Int))) => (encO .sh (r : NL (Int × Int)))) 1 false []
theorem p62o {F : Nat} {x0 : (List (Int × Int))} {r : (NL (Int × Int))} (h : w_toIntA2S_o F x0 = some r) : (e62o F).den [Enc.enc x0] = some (encO .sh (r : NL (Int × Int))) := ent_put (x0, ()) h
theorem o62o {D : Den} {σ : Sig} {F : Nat} (hF : Fits2 Try.prog D σ) (H : H62o D σ F) : (e62o F).Ok Try.prog := by
  refine ok_of (f := 62) (show unk 1000000062 = 62 from rfl) (fun args r h => ?_) ⟨Try.f62, Try.func62, rfl, rfl⟩
  obtain ⟨⟨x0, _⟩, y, rfl, hy, rfl⟩ := da_open h
  exact contract_run hF (by kernel_rfl) Try.func62 rfl c62o (show 1 ≤ Try.f62.ntmps by decide) (t62o H x0 _ rfl hy)
/- loop.example/g01109/laws.toGraph -/
def A17o_4 : AC := (.seq (.reg [] [((jv 11 (.load (.ag [.s, .p]) (.t 3)))), (.mk none none false (.store (.ag [.s, .p]) (.t 2) (.t 11)))] []) .ret)
def A17o_3 : AC := (.seq (.reg [.clr [9]] [((jv 7 (.fld (.t 1) 1 1))), ((jv 8 (.load .p (.t 7)))), (.mk (some 9) none false (.callO (.k (.fn 62 [] [])) [(.t 8)])), ((jv 10 (.fld (.t 3) 1 1))), (.mk none none false (.store .p (.t 10) (.t 9)))] []) A17o_4)
def A17o_2 : AC := (.seq (.reg [] [((jv 4 (.fld (.t 1) 0 0))), ((jv 5 (.load .s (.t 4)))), ((jv 6 (.fld (.t 3) 0 0))), (.mk none none false (.store .s (.t 6) (.t 5)))] []) A17o_3)
def A17o_1 : AC := (.seq (.reg [.clr [3]] [(.mk (some 3) none false (.alloc (.agg [(.int .i64 (.ofNat 0)), (.sl .nl (.ag [.s, .s]) 0 [])])))] []) A17o_2)
def A17o : AC := (.seq (.reg [.clr [1, 2]] [(.mk (some 1) none false (.box (.t 0))), (.mk (some 2) none false (.alloc (.agg [(.int .i64 (.ofNat 0)), (.sl .nl (.ag [.s, .s]) 0 [])])))] []) A17o_1)
def an17o : List An := [{ id := 0, pre := [.clr [1, 2]], ep := [], lin := [], sp := [] }, { id := 1, pre := [.clr [3]], ep := [], lin := [], sp := [] }, { id := 3, pre := [.clr [9]], ep := [], lin := [], sp := [1002] }]
theorem c17o : cC Try.prog Try.f17.ntmps an17o (Try.f17.body.getD .skip) = some A17o := by kernel_rfl
structure H17o (D : Den) (σ : Sig) (F : Nat) : Prop where
  c62o : ∀ (x0 : (List (Int × Int))) r, w_toIntA2S_o F x0 = some r → D 1000000062 [Enc.enc x0] = some (encO .sh (r : NL (Int × Int)))
  g62o : σ 1000000062 = some (1, false)
abbrev R17o (r : (Int × (NL (Int × Int)))) : (Nat → V) → Prop := RR Try.prog [.cell 2 27] 1 false (.agg [(Enc.enc (r.1 : Int)), (encO .sh (r.2 : NL (Int × Int)))])
section
variable {D : Den} {σ : Sig} {F : Nat} {r : (Int × (NL (Int × Int)))}
def w_toGraph_o (F : Nat) (x_1 : (Int × (List (Int × Int)))) : Option (Int × (NL (Int × Int))) :=
  (w_toIntA2S_o F x_1.2).bind fun r_2 =>
  some (x_1.1, r_2)
theorem t17o (H : H17o D σ F) (x_1 : (Int × (List (Int × Int)))) (s : Nat → V) (hs : Facts [(0, (.agg [(ji x_1.1), (Enc.enc (x_1.2 : List (Int × Int)))]))] s) (h : w_toGraph_o F x_1 = some r) : Run D σ (R17o r) (.run A17o []) s := by
  unfold w_toGraph_o at h
  have h0 := hs
  refine .seq (run_reg ?_)
  refine e_clr ?_
  refine ez [(0, _), (1, _), (2, _)] ⟨(keep_clear (pk := [1, 2]) h0 rfl (map_agg (maps_cons mi (maps_cons me maps_nil)))), (gone_clear (pk := [1, 2]) (t := 1) rfl), (gone_clear (pk := [1, 2]) (t := 2) rfl)⟩ ?_
  rintro s ⟨h0, h1, h2⟩
  refine g_box (.agg [(ji x_1.1), (Enc.enc (x_1.2 : List (Int × Int)))]) (rd_of h0 rfl) h1 rfl ?_
  refine g_alloc h2 ?_
  refine gq (.nsq (.seq (run_reg ?_)))
  refine e_clr ?_
  refine ez [(1, _), (2, _), (3, _)] ⟨(keep_clear (pk := [3]) rfl rfl (map_bx rfl (map_agg (maps_cons mi (maps_cons me maps_nil))))), (keep_clear (pk := [3]) rfl rfl (map_bx rfl (map_agg (maps_cons mi (maps_cons rfl maps_nil))))), (gone_clear (pk := [3]) (t := 3) rfl)⟩ ?_
  rintro s ⟨h1, h2, h3⟩
  refine g_alloc h3 ?_
  refine gq (.nsq (.seq (rg (g1 1 (.ref (.bx 1) 0 [0] (ji x_1.1)) h1 fun h4 => ?_))))
  refine g1 4 (ji x_1.1) h4 fun h5 => ?_
  refine g1 3 (.ref (.bx 3) 0 [0] (ji 0)) (rfl : (_ : V) = (.ref (.bx 3) 0 [] (.agg [(ji 0), (.sl .nl (Enc.shp (Int × Int)) 0 [])]))) fun h6 => ?_
  refine g_store (ji x_1.1) (rd_of h6 rfl) (rd_of h5 rfl) (by refine ⟨by decide, by decide, rfl, rfl, rfl, ?_⟩; first | rfl | simp [V.toks, V.tokss, Enc.toks_enc]) ?_
  refine gz [(1, (.ref (.bx 1) 0 [] (.agg [(ji x_1.1), (Enc.enc (x_1.2 : List (Int × Int)))]))), (2, (.ref (.bx 2) 0 [] (.agg [(ji 0), (.sl .nl (Enc.shp (Int × Int)) 0 [])]))), (3, (.ref (.bx 3) 0 [] (.agg [(ji x_1.1), (.sl .nl (Enc.shp (Int × Int)) 0 [])])))] ⟨(keep_mut h1 (mut_ref_ne rfl rfl (mut_agg (muts_cons rfl (muts_cons (Enc.mut_enc _ _ _ _ (x_1.2 : List (Int × Int))) rfl))))), (keep_mut h2 (mut_ref_ne rfl rfl (mut_agg (muts_cons rfl (muts_cons rfl rfl))))), (keep_mut rfl rfl)⟩ ?_
  rintro s ⟨h1, h2, h3⟩
  refine .nsq (.seq (run_reg ?_))
  refine e_clr ?_
  refine ez [(1, _), (2, _), (3, _), (9, _)] ⟨(keep_clear (pk := [9]) h1 rfl (map_bx rfl (map_agg (maps_cons mi (maps_cons me maps_nil))))), (keep_clear (pk := [9]) h2 rfl (map_bx rfl (map_agg (maps_cons mi (maps_cons rfl maps_nil))))), (keep_clear (pk := [9]) h3 rfl (map_bx rfl (map_agg (maps_cons mi (maps_cons rfl maps_nil))))), (gone_clear (pk := [9]) (t := 9) rfl)⟩ ?_
  rintro s ⟨h1, h2, h3, h9⟩
  refine g1 1 (.ref (.bx 1) 0 [1] (Enc.enc (x_1.2 : List (Int × Int)))) h1 fun h7 => ?_
  refine g1 7 (Enc.enc (x_1.2 : List (Int × Int))) h7 fun h8 => ?_
  obtain ⟨r_2, E_r_2, h⟩ := bind_some h
  refine g_callO (m := 1) (al := false) (r := (encO .sh (r_2 : NL (Int × Int)))) (v := (encO (.at 9 []) (r_2 : NL (Int × Int)))) (kk := 1000000062) [Enc.enc (x_1.2 : (List (Int × Int)))] (ta_cons (v := (Enc.enc (x_1.2 : List (Int × Int)))) h8 rfl (Enc.erase_enc (x_1.2 : (List (Int × Int)))) ta_nil) (H.c62o _ _ E_r_2) H.g62o rfl toks_encS tag_encO ok_encP h9 ?_
  refine g1 3 (.ref (.bx 3) 0 [1] (.sl .nl (Enc.shp (Int × Int)) 0 [])) h3 fun h10 => ?_
  refine g_store (encO (.at 9 []) (r_2 : NL (Int × Int))) (rd_of h10 rfl) (rd_of rfl ok_encP) ⟨by decide, by decide, mem_encP, shp_encP, rfl, tok_encP rfl rfl⟩ ?_
  refine gz [(2, (.ref (.bx 2) 0 [] (.agg [(ji 0), (.sl .nl (Enc.shp (Int × Int)) 0 [])]))), (3, (.ref (.bx 3) 0 [] (.agg [(ji x_1.1), (encO (.at 9 []) (r_2 : NL (Int × Int)))])))] ⟨(keep_mut h2 (mut_ref_ne rfl rfl (mut_agg (muts_cons rfl (muts_cons rfl rfl))))), (keep_mut h3 rfl)⟩ ?_
  rintro s ⟨h2, h3⟩
  refine .nsq (.seq (rg (gv (.agg [(ji x_1.1), (encO (.at 9 []) (r_2 : NL (Int × Int)))]) (ev_loadN (c := (.agg [(ji x_1.1), (encO (.at 9 []) (r_2 : NL (Int × Int)))])) h3 (by simp [V.shape, V.shapes, shape_encP, Sh.beq, Sh.beqs])) fun h11 => ?_)))
  refine g_store (.agg [(ji x_1.1), (encO (.at 9 []) (r_2 : NL (Int × Int)))]) (rd_of h2 rfl) (rd_of h11 rfl) ⟨by decide, by decide, rfl, (by simp [V.shape, V.shapes, shape_encP, Sh.beq, Sh.beqs]), (by simp [V.shape, V.shapes, shape_encP, Sh.beq, Sh.beqs]), (by simp [V.toks, V.tokss, tok_memP])⟩ ?_
  refine gz [(2, (.ref (.bx 2) 0 [] (.agg [(ji x_1.1), (encO (.at 9 []) (r_2 : NL (Int × Int)))])))] (keep_mut h2 rfl) ?_
  rintro s h2
  refine .nsq (.ret ?_)
  have hr := Option.some.inj h
  subst hr
  exact rrA (res_cell h2 (by simp only [V.shape, V.shapes, shape_encP]; kernel_rfl)) (fin_retO (finO_agg (finOs_cons finO_int (finOs_cons (finO_own (o := (r_2 : NL (Int × Int)))) finOs_nil))) rfl (mine_agg (mines_cons rfl (mines_cons (mine_own rfl) mines_nil))))
end
def e17o (F : Nat) : Ent := ent 1000000017 (fun (x : ((Int × (List (Int × Int))) × Unit)) => w_toGraph_o F x.1) (fun (r : (Int × (NL (Int × Int)))) => (.agg [(Enc.enc (r.1 : Int)), (encO .sh (r.2 : NL (Int × Int)))])) 1 false []
theorem p17o {F : Nat} {x0 : (Int × (List (Int × Int)))} {r : (Int × (NL (Int × Int)))} (h : w_toGraph_o F x0 = some r) : (e17o F).den [Enc.enc x0] = some (.agg [(Enc.enc (r.1 : Int)), (encO .sh (r.2 : NL (Int × Int)))]) := ent_put (x0, ()) h
theorem o17o {D : Den} {σ : Sig} {F : Nat} (hF : Fits2 Try.prog D σ) (H : H17o D σ F) : (e17o F).Ok Try.prog := by
  refine ok_of (f := 17) (show unk 1000000017 = 17 from rfl) (fun args r h => ?_) ⟨Try.f17, Try.func17, rfl, rfl⟩
  obtain ⟨⟨x0, _⟩, y, rfl, hy, rfl⟩ := da_open h
  exact contract_run hF (by kernel_rfl) Try.func17 rfl c17o (show 1 ≤ Try.f17.ntmps by decide) (t17o H x0 _ rfl hy)
/- loop.example/g01109/laws.markIntA2S -/
def A69_2 : AC := (.cond (.t 10) .skip (.exit 0))
def A69_6 : AC := (.cond (.t 14) .skip (.exit 2))
def A69_8 : AC := (.reg [] [(jm 23 1), ((jv 24 (.bin .add (.t 23) (jn 1)))), (jm 1 24)] [])
def A69_9 : AC := (.reg [] [(jm 15 6), ((jv 16 (.bin .add (.t 15) (jn 1)))), (jm 6 16)] [])
def A69_7 : AC := (.seq (.block 3 (.seq (.reg [] [(jm 17 0), (jm 18 5), (jm 19 6), (jm 20 1), ((jv 21 (.idx (.t 17) (.t 18) 2))), ((jv 22 (.idxA (.t 21) (.t 19) 2 1))), (.mk none none false (.store .s (.t 22) (.t 20)))] []) A69_8)) A69_9)
def A69_5 : AC := (.seq (.seq (.reg [] [(jm 13 6), ((jv 14 (.bin .lss (.t 13) (jn 2))))] []) A69_6) A69_7)
def A69_4 : AC := (.block 2 (.loop A69_5))
def A69_10 : AC := (.reg [] [(jm 11 5), ((jv 12 (.bin .add (.t 11) (jn 1)))), (jm 5 12)] [])
def A69_3 : AC := (.seq (.block 1 (.seq (.reg [] [((jv 6 (.mov (jn 0))))] []) A69_4)) A69_10)
def A69_1 : AC := (.seq (.seq (.reg [] [(jm 7 5), (jm 8 0), ((jv 9 (.len (.t 8)))), ((jv 10 (.bin .lss (.t 7) (.t 9))))] []) A69_2) A69_3)
def A69_11 : AC := (.seq (.reg [] [(jm 25 1), (jm 4 25)] []) .ret)
def A69_13 : AC := (.block 0 (.loop A69_1))
def A69_12 : AC := (.seq (.seq (.reg [] [((jv 5 (.mov (jn 0))))] []) A69_13) A69_11)
def A69 : AC := (.seq (.reg [] [((jv 4 (.mov (jn 0))))] []) A69_12)
def an69 : List An := []
theorem c69 : cC Try.prog Try.f69.ntmps an69 (Try.f69.body.getD .skip) = some A69 := by kernel_rfl
structure H69 (D : Den) (σ : Sig) (F : Nat) : Prop where
  mk ::
abbrev R69 (r : (Int × NL (Int × Int))) : (Nat → V) → Prop := RM Try.prog [.tmp 4] (Enc.enc (r.1 : Int)) (encO (.at pinR []) (r.2 : NL (Int × Int)))
section
variable {D : Den} {σ : Sig} {F : Nat} {r : (Int × NL (Int × Int))}
def w_markIntA2S_l1 (F : Nat) (x_13 : Int) (c1 : (NL (Int × Int)) → Int → Int → Option (Int × NL (Int × Int))) : Nat → (NL (Int × Int)) → Int → Int → Option (Int × NL (Int × Int))
  | 0, _, _, _ => none
  | k + 1, x_23, x_24, x_25 =>
    bif decide (x_25 < 2) then
      (idx x_23.list x_13).bind fun e_28 =>
      (idx [e_28.1, e_28.2] x_25).bind fun e_29 =>
      (w_markIntA2S_l1 F x_13 c1 k) (NL.set2 x_23 x_13.toNat x_25 x_24) (w64 (x_24 + 1)) (w64 (x_25 + 1))
    else
      c1 x_23 x_24 (w64 (x_13 + 1))
theorem t_f69_l1 (H : H69 D σ F) (x_13 : Int) (c1 : (NL (Int × Int)) → Int → Int → Option (Int × NL (Int × Int))) (Hc1 : ∀ (x_11 : (NL (Int × Int))) (x_12 : Int) (x_13 : Int) (s : Nat → V), Facts [(0, (encO (.at pinR []) (x_11 : NL (Int × Int)))), (1, (ji x_12)), (4, (ji 0)), (5, (ji x_13))] s → c1 x_11 x_12 x_13 = some r → Run D σ (R69 r) (.run A69_1 [.lp A69_1, .bk 0, .sq A69_11]) s) : ∀ (k : Nat) (x_23 : (NL (Int × Int))) (x_24 : Int) (x_25 : Int) (s : Nat → V), Facts [(0, (encO (.at pinR []) (x_23 : NL (Int × Int)))), (1, (ji x_24)), (4, (ji 0)), (5, (ji x_13)), (6, (ji x_25))] s → w_markIntA2S_l1 F x_13 c1 k x_23 x_24 x_25 = some r → Run D σ (R69 r) (.run A69_5 [.lp A69_5, .bk 2, .bk 1, .sq A69_10, .lp A69_1, .bk 0, .sq A69_11]) s := by
  intro k
  induction k with
  | zero => intro x_23 x_24 x_25 s _ h; exact nomatch (h : (none : Option _) = some r)
  | succ k ih =>
    intro x_23 x_24 x_25 s hs h
    rw [w_markIntA2S_l1] at h
    obtain ⟨h0, h1, h4, h5, h6⟩ := hs
    refine .seq (.seq (rg (gm h6 fun h13 => g1 13 (jb (decide (x_25 < 2))) h13 fun h14 => ?_)))
    refine gq (.nsq (run_cond (t := decide (x_25 < 2)) h14 h (fun h => ?_) (fun h => ?_)))
    · refine .skip (.nsq (.seq (.block (.seq (rg (gv (encO (.at pinR []) (x_23 : NL (Int × Int))) (ev_mov h0 ok_encO) fun h17 => ?_))))))
      refine gm h5 fun h18 => gm h6 fun h19 => gm h1 fun h20 => ?_
      obtain ⟨e_28, E_e_28, h⟩ := bind_some h
      refine gv (.ref (.at pinR []) x_13.toNat [] (.agg [(ji e_28.1), (ji e_28.2)])) (ev_idxO (o := x_23) h17 h18 E_e_28 rfl) fun h21 => ?_
      obtain ⟨e_29, E_e_29, h⟩ := bind_some h
      refine gv (.ref (.at pinR []) x_13.toNat [x_25.toNat] (ji e_29)) (ev_idxA (xs := [e_28.1, e_28.2]) (a := e_29) (n := x_25) (q := []) h21 h19 E_e_29 rfl rfl rfl) fun h22 => ?_
      refine g_store (ji x_24) (rd_of h22 rfl) (rd_of h20 rfl) (by refine ⟨by decide, by decide, rfl, rfl, rfl, ?_⟩; first | rfl | simp [V.toks, V.tokss, Enc.toks_enc]) ?_
      refine gz [(0, (encO (.at pinR []) ((NL.set2 x_23 x_13.toNat x_25 x_24) : NL (Int × Int)))), (1, (ji x_24)), (4, (ji 0)), (5, (ji x_13)), (6, (ji x_25))] ⟨(keep_mut h0 (mut_own2 (o := x_23) E_e_29 rfl)), (keep_mut h1 rfl), (keep_mut h4 rfl), (keep_mut h5 rfl), (keep_mut h6 rfl)⟩ ?_
      rintro s ⟨h0, h1, h4, h5, h6⟩
      refine .nsq (rg (gm h1 fun h23 => g1 23 (ji (w64 (x_24 + 1))) h23 fun h24 => ?_))
      refine gm h24 fun h1 => gq (.nbk (.nsq (rg (gm h6 fun h15 => g1 15 (ji (w64 (x_25 + 1))) h15 fun h16 => ?_))))
      refine gm h16 fun h6 => gq (.nlp ?_)
      exact ih (NL.set2 x_23 x_13.toNat x_25 x_24) (w64 (x_24 + 1)) (w64 (x_25 + 1)) _ ⟨h0, h1, h4, h5, h6⟩ h
    refine .exit (.esq (.elp (.ebk (.nbk (.nsq (rg (gm h5 fun h11 => g1 11 (ji (w64 (x_13 + 1))) h11 fun h12 => ?_)))))))
    refine gm h12 fun h5 => gq (.nlp ?_)
    exact Hc1 x_23 x_24 (w64 (x_13 + 1)) _ ⟨h0, h1, h4, h5⟩ h
def w_markIntA2S_l2 (F : Nat)   : Nat → (NL (Int × Int)) → Int → Int → Option (Int × NL (Int × Int))
  | 0, _, _, _ => none
  | k + 1, x_11, x_12, x_13 =>
    bif decide (x_13 < (x_11.list.length : Int)) then
      w_markIntA2S_l1 F x_13 (w_markIntA2S_l2 F k) F x_11 x_12 0
    else
      some (x_12, x_11)
theorem t_f69_l2 (H : H69 D σ F)   : ∀ (k : Nat) (x_11 : (NL (Int × Int))) (x_12 : Int) (x_13 : Int) (s : Nat → V), Facts [(0, (encO (.at pinR []) (x_11 : NL (Int × Int)))), (1, (ji x_12)), (4, (ji 0)), (5, (ji x_13))] s → w_markIntA2S_l2 F k x_11 x_12 x_13 = some r → Run D σ (R69 r) (.run A69_1 [.lp A69_1, .bk 0, .sq A69_11]) s := by
  intro k
  induction k with
  | zero => intro x_11 x_12 x_13 s _ h; exact nomatch (h : (none : Option _) = some r)
  | succ k ih =>
    intro x_11 x_12 x_13 s hs h
    rw [w_markIntA2S_l2] at h
    obtain ⟨h0, h1, h4, h5⟩ := hs
    refine .seq (.seq (rg (gm h5 fun h7 => gv (encO (.at pinR []) (x_11 : NL (Int × Int))) (ev_mov h0 ok_encO) fun h8 => ?_)))
    refine gv (ji (x_11.list.length : Int)) (ev_lenO (o := x_11) h8) fun h9 => ?_
    refine g2 7 9 (jb (decide (x_13 < (x_11.list.length : Int)))) h7 h9 fun h10 => ?_
    refine gq (.nsq (run_cond (t := decide (x_13 < (x_11.list.length : Int))) h10 h (fun h => ?_) (fun h => ?_)))
    · refine .skip (.nsq (.seq (.block (.seq (rg (g0 (ji 0) fun h6 => gq (.nsq (.block (.loop ?_)))))))))
      exact t_f69_l1 H x_13 (w_markIntA2S_l2 F k) ih F x_11 x_12 0 _ ⟨h0, h1, h4, h5, h6⟩ h
    refine .exit (.esq (.elp (.ebk (.nsq (.seq (rg (gm h1 fun h25 => gm h25 fun h4 => gq (.nsq (.ret ?_)))))))))
    have hr := Option.some.inj h
    subst hr
    exact rmA (res_tmp h4) h0
def w_markIntA2S (F : Nat) (x_1 : (On (Int × Int))) (x_2 : Int) : Option (Int × NL (Int × Int)) :=
  w_markIntA2S_l2 F F x_1.v x_2 0
theorem t69 (H : H69 D σ F) (x_1 : (On (Int × Int))) (x_2 : Int) (s : Nat → V) (hs : Facts [(0, (encO (.at pinR []) (x_1.v : NL (Int × Int)))), (1, (ji x_2))] s) (h : w_markIntA2S F x_1 x_2 = some r) : Run D σ (R69 r) (.run A69 []) s := by
  unfold w_markIntA2S at h
  obtain ⟨h0, h1⟩ := hs
  refine .seq (rg (g0 (ji 0) fun h4 => gq (.nsq (.seq (.seq (rg (g0 (ji 0) fun h5 => gq (.nsq (.block (.loop ?_))))))))))
  exact t_f69_l2 H F x_1.v x_2 0 _ ⟨h0, h1, h4, h5⟩ h
end
def e69 (F : Nat) : Ent := ent 69 (fun (x : ((On (Int × Int)) × Int × Unit)) => w_markIntA2S F x.1 x.2.1) (fun (r : (Int × NL (Int × Int))) => (.tup [Enc.enc (r.1 : Int), encO (.at pinR []) (r.2 : NL (Int × Int))])) pinR false []
theorem p69 {F : Nat} {x0 : (On (Int × Int))} {x1 : Int} {r : (Int × NL (Int × Int))} (h : w_markIntA2S F x0 x1 = some r) : (e69 F).den [Arg.arg x0, Enc.enc x1] = some (.tup [Enc.enc (r.1 : Int), encO (.at pinR []) (r.2 : NL (Int × Int))]) := ent_put (x0, x1, ()) h
theorem o69 {D : Den} {σ : Sig} {F : Nat} (hF : Fits2 Try.prog D σ) (H : H69 D σ F) : (e69 F).Ok Try.prog := by
  refine ok_of (f := 69) (show unk 69 = 69 from rfl) (fun args r h => ?_) ⟨Try.f69, Try.func69, rfl, rfl⟩
  obtain ⟨⟨x0, x1, _⟩, y, rfl, hy, rfl⟩ := da_open h
  exact contractM_run hF (by kernel_rfl) Try.func69 rfl c69 (all_ok2 ok_encP rfl) (show 2 ≤ Try.f69.ntmps by decide) (by decide) (t69 H x0 x1 _ ⟨rfl, rfl⟩ hy)
/- loop.example/g01109/laws.markGraph -/
def A22_2 : AC := (.seq (.reg [] [(jm 9 1), (jm 4 9)] []) .ret)
def A22_1 : AC := (.seq (.reg [] [((jv 5 (.fld (.t 2) 1 1))), ((jv 6 (.load .p (.t 5)))), (jm 7 1), (.mk (some 8) none false (.mark (.k (.fn 69 [] [])) [(.t 6), (.t 7)])), (jm 1 8)] []) A22_2)
def A22 : AC := (.seq (.reg [.clr [2]] [(.mk (some 2) none false (.box (.t 0))), ((jv 4 (.mov (jn 0))))] []) A22_1)
def an22 : List An := [{ id := 0, pre := [.clr [2]], ep := [], lin := [], sp := [] }, { id := 1, pre := [], ep := [], lin := [], sp := [3] }]
theorem c22 : cC Try.prog Try.f22.ntmps an22 (Try.f22.body.getD .skip) = some A22 := by kernel_rfl
structure H22 (D : Den) (σ : Sig) (F : Nat) : Prop where
  c69 : ∀ (x0 : (On (Int × Int))) (x1 : Int) r, w_markIntA2S F x0 x1 = some r → D 69 [Arg.arg x0, Enc.enc x1] = some (.tup [Enc.enc (r.1 : Int), encO (.at pinR []) (r.2 : NL (Int × Int))])
  g69 : σ 69 = some (pinR, false)
abbrev R22 (r : (Int × Og (Int × Int))) : (Nat → V) → Prop := RM Try.prog [.tmp 4] (Enc.enc (r.1 : Int)) (.agg [Enc.enc (r.2.a : Int), encO (.at pinR [1]) (r.2.v : NL (Int × Int))])
section
variable {D : Den} {σ : Sig} {F : Nat} {r : (Int × Og (Int × Int))}
def w_markGraph (F : Nat) (x_1 : (Og (Int × Int))) (x_2 : Int) : Option (Int × Og (Int × Int)) :=
  (w_markIntA2S F (On.mk x_1.v : (On (Int × Int))) x_2).bind fun r_3 =>
  (remark x_1.v r_3.2).bind fun m_4 =>
  some (r_3.1, Og.mk x_1.a m_4)
theorem t22 (H : H22 D σ F) (x_1 : (Og (Int × Int))) (x_2 : Int) (s : Nat → V) (hs : Facts [(0, (.agg [(ji x_1.a), (encO (.at pinR [1]) (x_1.v : NL (Int × Int)))])), (1, (ji x_2))] s) (h : w_markGraph F x_1 x_2 = some r) : Run D σ (R22 r) (.run A22 []) s := by
  unfold w_markGraph at h
  obtain ⟨h0, h1⟩ := hs
  refine .seq (run_reg ?_)
  refine e_clr ?_
  refine ez [(0, _), (1, _), (2, _)] ⟨(keep_clear (pk := [2]) h0 rfl (map_agg (maps_cons mi (maps_cons (map_encO (r := pinR) (p := [1]) rfl rfl) maps_nil)))), (keep_clear (pk := [2]) h1 rfl mi), (gone_clear (pk := [2]) (t := 2) rfl)⟩ ?_
  rintro s ⟨h0, h1, h2⟩
  refine g_box (.agg [(ji x_1.a), (encO (.at pinR [1]) (x_1.v : NL (Int × Int)))]) (rd_of h0 rfl) h2 rfl ?_
  refine g0 (ji 0) fun h4 => gq (.nsq (.seq (rg (g1 2 (.ref (.bx 2) 0 [1] (encO (.at pinR [1]) (x_1.v : NL (Int × Int)))) (rfl : (_ : V) = (.ref (.bx 2) 0 [] (.agg [(ji x_1.a), (encO (.at pinR [1]) (x_1.v : NL (Int × Int)))]))) fun h5 => ?_))))
  refine gv (encO (.at pinR [1]) (x_1.v : NL (Int × Int))) (ev_loadN h5 beq_encO) fun h6 => ?_
  refine gm h1 fun h7 => ?_
  obtain ⟨r_3, E_r_3, h⟩ := bind_some h
  obtain ⟨m_4, E_m_4, h⟩ := bind_some h
  refine g_mark (v := (encO (.at pinR [1]) (x_1.v : NL (Int × Int)))) h6 (canon_own (o := (x_1.v : (NL (Int × Int)))) rfl) (rdAll_cons (v := (ji x_2)) h7 rfl rdAll_nil) (H.c69 _ _ _ E_r_3) H.g69 rfl rfl (fun s_2 hm_2 => ?_)
  refine gm (rfl : (_ : V) = (ji r_3.1)) fun h1 => ?_
  refine gz [(0, (.agg [(ji x_1.a), (encO (.at pinR [1]) (m_4 : NL (Int × Int)))])), (1, _), (4, (ji 0))] ⟨(show s_2 0 = (.agg [(ji x_1.a), (encO (.at pinR [1]) (m_4 : NL (Int × Int)))]) from hm_2 0 (.agg [(ji x_1.a), (encO (.at pinR [1]) (x_1.v : NL (Int × Int)))]) (.agg [(ji x_1.a), (encO (.at pinR [1]) (m_4 : NL (Int × Int)))]) h0 (rem_agg (rems_cons (rem_self _ rfl) (rems_cons (marked_own (o := (x_1.v : NL (Int × Int))) rfl E_m_4) rems_nil)))), h1, (show s_2 4 = (ji 0) from hm_2 4 (ji 0) (ji 0) h4 (rem_self _ rfl))⟩ ?_
  rintro s ⟨h0, h1, h4⟩
  refine .nsq (.seq (rg (gm h1 fun h9 => gm h9 fun h4 => gq (.nsq (.ret ?_)))))
  have hr := Option.some.inj h
  subst hr
  exact rmA (res_tmp h4) h0
end
def e22 (F : Nat) : Ent := ent 22 (fun (x : ((Og (Int × Int)) × Int × Unit)) => w_markGraph F x.1 x.2.1) (fun (r : (Int × Og (Int × Int))) => (.tup [Enc.enc (r.1 : Int), .agg [Enc.enc (r.2.a : Int), encO (.at pinR [1]) (r.2.v : NL (Int × Int))]])) pinR false []
theorem p22 {F : Nat} {x0 : (Og (Int × Int))} {x1 : Int} {r : (Int × Og (Int × Int))} (h : w_markGraph F x0 x1 = some r) : (e22 F).den [Arg.arg x0, Enc.enc x1] = some (.tup [Enc.enc (r.1 : Int), .agg [Enc.enc (r.2.a : Int), encO (.at pinR [1]) (r.2.v : NL (Int × Int))]]) := ent_put (x0, x1, ()) h
theorem o22 {D : Den} {σ : Sig} {F : Nat} (hF : Fits2 Try.prog D σ) (H : H22 D σ F) : (e22 F).Ok Try.prog := by
  refine ok_of (f := 22) (show unk 22 = 22 from rfl) (fun args r h => ?_) ⟨Try.f22, Try.func22, rfl, rfl⟩
  obtain ⟨⟨x0, x1, _⟩, y, rfl, hy, rfl⟩ := da_open h
  exact contractM_run hF (by kernel_rfl) Try.func22 rfl c22 (all_ok2 rfl rfl) (show 2 ≤ Try.f22.ntmps by decide) (by decide) (t22 H x0 x1 _ ⟨rfl, rfl⟩ hy)
/- loop.example/g01109/laws.toIntS -/
def A18o_2 : AC := (.cond (.t 11) .skip (.exit 0))
def A18o_4 : AC := (.reg [] [(jm 12 4), ((jv 13 (.bin .add (.t 12) (jn 1)))), (jm 4 13)] [])
def A18o_3 : AC := (.seq (.block 1 (.reg [] [(jm 14 3), (jm 15 4), (jm 16 0), (jm 17 4), ((jv 18 (.idx (.t 16) (.t 17) 1))), ((jv 19 (.load .s (.t 18)))), ((jv 20 (.idx (.t 14) (.t 15) 1))), (.mk none none false (.store .s (.t 20) (.t 19)))] [])) A18o_4)
def A18o_1 : AC := (.seq (.seq (.reg [] [(jm 8 4), (jm 9 0), ((jv 10 (.len (.t 9)))), ((jv 11 (.bin .lss (.t 8) (.t 10))))] []) A18o_2) A18o_3)
def A18o_5 : AC := (.seq (.reg [] [(jm 21 3), (jm 2 21)] [.home 3 2]) .ret)
def A18o_8 : AC := (.block 0 (.loop A18o_1))
def A18o_7 : AC := (.seq (.seq (.reg [] [((jv 4 (.mov (jn 0))))] []) A18o_8) A18o_5)
def A18o_6 : AC := (.seq (.reg [.clr [7]] [(jm 5 0), ((jv 6 (.len (.t 5)))), (.mk (some 7) none false (.mk (.t 6) (.int .i64 (.ofNat 0)) (.int .i64 (.ofNat 0)))), (jm 3 7)] [.home 7 3]) A18o_7)
def A18o : AC := (.seq (.reg [] [((jv 2 (.mov (.k (.sl .nl .s 0 [])))))] []) A18o_6)
def an18o : List An := [{ id := 1, pre := [.clr [7]], ep := [.home 7 3], lin := [], sp := [] }, { id := 6, pre := [], ep := [.home 3 2], lin := [], sp := [] }]
theorem c18o : cC Try.prog Try.f18.ntmps an18o (Try.f18.body.getD .skip) = some A18o := by kernel_rfl
structure H18o (D : Den) (σ : Sig) (F : Nat) : Prop where
  mk ::
abbrev R18o (r : (NL Int)) : (Nat → V) → Prop := RR Try.prog [.tmp 2] 1 false (encO .sh (r : NL Int))
section
variable {D : Den} {σ : Sig} {F : Nat} {r : (NL Int)}
def w_toIntS_o_l1 (F : Nat) (x_1 : (List Int))  : Nat → (List Int) → Int → Option (NL Int)
  | 0, _, _ => none
  | k + 1, x_5, x_6 =>
    bif decide (x_6 < (x_1.length : Int)) then
      (idx x_1 x_6).bind fun e_9 =>
      (idx x_5 x_6).bind fun e_10 =>
      (w_toIntS_o_l1 F x_1 k) (x_5.set x_6.toNat e_9) (w64 (x_6 + 1))
    else
      some (.of x_5)
theorem t_f18o_l1 (H : H18o D σ F) (x_1 : (List Int))  : ∀ (k : Nat) (x_5 : (List Int)) (x_6 : Int) (s : Nat → V), Facts [(0, (eL x_1)), (2, (.sl .nl (Enc.shp Int) 0 [])), (3, (oI 3 [] (.of x_5))), (4, (ji x_6))] s → w_toIntS_o_l1 F x_1 k x_5 x_6 = some r → Run D σ (R18o r) (.run A18o_1 [.lp A18o_1, .bk 0, .sq A18o_5]) s := by
  intro k
  induction k with
  | zero => intro x_5 x_6 s _ h; exact nomatch (h : (none : Option _) = some r)
  | succ k ih =>
    intro x_5 x_6 s hs h
    rw [w_toIntS_o_l1] at h
    obtain ⟨h0, h2, h3, h4⟩ := hs
    refine .seq (.seq (rg (gm h4 fun h8 => gm h0 fun h9 => gv (ji (x_1.length : Int)) (ev_len (xs := x_1) h9) fun h10 => ?_)))
    refine g2 8 10 (jb (decide (x_6 < (x_1.length : Int)))) h8 h10 fun h11 => ?_
    refine gq (.nsq (run_cond (t := decide (x_6 < (x_1.length : Int))) h11 h (fun h => ?_) (fun h => ?_)))
    · refine .skip (.nsq (.seq (.block (rg (gm h3 fun h14 => gm h4 fun h15 => gm h0 fun h16 => gm h4 fun h17 => ?_)))))
      obtain ⟨e_9, E_e_9, h⟩ := bind_some h
      refine gv (.ref .sh 0 [] (ji e_9)) (ev_idx (t := .sh) (lo := 0) (xs := x_1) h16 h17 E_e_9 rfl rfl) fun h18 => ?_
      refine g1 18 (ji e_9) h18 fun h19 => ?_
      obtain ⟨e_10, E_e_10, h⟩ := bind_some h
      refine gv (.ref (.at 3 []) x_6.toNat [] (ji e_10)) (ev_idxO (o := (.of x_5)) h14 h15 E_e_10 rfl) fun h20 => ?_
      refine g_store (ji e_9) (rd_of h20 rfl) (rd_of h19 rfl) (by refine ⟨by decide, by decide, rfl, rfl, rfl, ?_⟩; first | rfl | simp [V.toks, V.tokss, Enc.toks_enc]) ?_
      refine gz [(0, (eL x_1)), (2, (.sl .nl (Enc.shp Int) 0 [])), (3, _), (4, (ji x_6))] ⟨(keep_mut h0 (Enc.mut_enc _ _ _ _ (x_1 : List Int))), (keep_mut h2 rfl), (keep_mut h3 mut_own), (keep_mut h4 rfl)⟩ ?_
      rintro s ⟨h0, h2, h3, h4⟩
      refine .nbk (.nsq (rg (gm h4 fun h12 => g1 12 (ji (w64 (x_6 + 1))) h12 fun h13 => ?_)))
      refine gm h13 fun h4 => gq (.nlp ?_)
      exact ih (x_5.set x_6.toNat e_9) (w64 (x_6 + 1)) _ ⟨h0, h2, h3, h4⟩ h
    refine .exit (.esq (.elp (.ebk (.nsq (.seq (rg (gm h3 fun h21 => gm h21 fun h2 => g_end ?_)))))))
    refine e_home (r := 3) (x := 2) (v := _) h2 rfl (fun s_3 hg_3 => ?_)
    refine ez [(2, (oI 2 [] (.of x_5)))] (hg_3 2 _ _ h2 (map_encO (r := 3) (p := []) rfl rfl)) ?_
    rintro s h2
    refine .nsq (.ret ?_)
    have hr := Option.some.inj h
    subst hr
    exact rrA (res_tmp h2) (fin_retO (finO_own (o := ((.of x_5) : NL Int))) rfl (mine_own rfl))
def w_toIntS_o (F : Nat) (x_1 : (List Int)) : Option (NL Int) :=
  (mkN (x_1.length : Int) (0 : Int)).bind fun mk_2 =>
  w_toIntS_o_l1 F x_1 F mk_2 0
theorem t18o (H : H18o D σ F) (x_1 : (List Int)) (s : Nat → V) (hs : Facts [(0, (eL x_1))] s) (h : w_toIntS_o F x_1 = some r) : Run D σ (R18o r) (.run A18o []) s := by
  unfold w_toIntS_o at h
  have h0 := hs
  refine .seq (rg (g0 (.sl .nl (Enc.shp Int) 0 []) fun h2 => ?_))
  refine gq (.nsq (.seq (run_reg ?_)))
  refine e_clr ?_
  refine ez [(0, _), (2, _), (7, _)] ⟨(keep_clear (pk := [7]) h0 rfl me), (keep_clear (pk := [7]) h2 rfl rfl), (gone_clear (pk := [7]) (t := 7) rfl)⟩ ?_
  rintro s ⟨h0, h2, h7⟩
  refine gm h0 fun h5 => gv (ji (x_1.length : Int)) (ev_len (xs := x_1) h5) fun h6 => ?_
  obtain ⟨mk_2, E_mk_2, h⟩ := bind_some h
  refine g_mk (0 : Int) h6 rfl h7 E_mk_2 ?_
  refine gm (rfl : (_ : V) = (oI 7 [] (.of mk_2))) fun h3 => ?_
  refine g_end ?_
  refine e_home (r := 7) (x := 3) (v := _) h3 rfl (fun s_2 hg_2 => ?_)
  refine ez [(0, (eL x_1)), (2, (.sl .nl (Enc.shp Int) 0 [])), (3, (oI 3 [] (.of mk_2)))] ⟨(hg_2 0 _ _ h0 me), (hg_2 2 _ (.sl .nl (Enc.shp Int) 0 []) h2 rfl), (hg_2 3 _ _ h3 (map_encO (r := 7) (p := []) rfl rfl))⟩ ?_
  rintro s ⟨h0, h2, h3⟩
  refine .nsq (.seq (.seq (rg (g0 (ji 0) fun h4 => gq (.nsq (.block (.loop ?_)))))))
  exact t_f18o_l1 H x_1 F mk_2 0 _ ⟨h0, h2, h3, h4⟩ h
end
def e18o (F : Nat) : Ent := ent 1000000018 (fun (x : ((List Int) × Unit)) => w_toIntS_o F x.1) (fun (r : (NL Int)) => (encO .sh (r : NL Int))) 1 false []
theorem p18o {F : Nat} {x0 : (List Int)} {r : (NL Int)} (h : w_toIntS_o F x0 = some r) : (e18o F).den [Enc.enc x0] = some (encO .sh (r : NL Int)) := ent_put (x0, ()) h
theorem o18o {D : Den} {σ : Sig} {F : Nat} (hF : Fits2 Try.prog D σ) (H : H18o D σ F) : (e18o F).Ok Try.prog := by
  refine ok_of (f := 18) (show unk 1000000018 = 18 from rfl) (fun args r h => ?_) ⟨Try.f18, Try.func18, rfl, rfl⟩
  obtain ⟨⟨x0, _⟩, y, rfl, hy, rfl⟩ := da_open h
  exact contract_run hF (by kernel_rfl) Try.func18 rfl c18o (show 1 ≤ Try.f18.ntmps by decide) (t18o H x0 _ rfl hy)
/- loop.example/g01109/laws.toIntSS -/
def A27o_2 : AC := (.cond (.t 11) .skip (.exit 0))
def A27o_4 : AC := (.reg [] [(jm 12 4), ((jv 13 (.bin .add (.t 12) (jn 1)))), (jm 4 13)] [])
def A27o_3 : AC := (.seq (.block 1 (.reg [.clr [20]] [(jm 14 3), (jm 15 4), (jm 16 0), (jm 17 4), ((jv 18 (.idx (.t 16) (.t 17) 1))), ((jv 19 (.load .p (.t 18)))), (.mk (some 20) none false (.callO (.k (.fn 18 [] [])) [(.t 19)])), ((jv 21 (.idx (.t 14) (.t 15) 1))), (.mk none none false (.store .p (.t 21) (.t 20)))] [.can 3])) A27o_4)
def A27o_1 : AC := (.seq (.seq (.reg [] [(jm 8 4), (jm 9 0), ((jv 10 (.len (.t 9)))), ((jv 11 (.bin .lss (.t 8) (.t 10))))] []) A27o_2) A27o_3)
def A27o_5 : AC := (.seq (.reg [] [(jm 22 3), (jm 2 22)] [.home 3 2]) .ret)
def A27o_8 : AC := (.block 0 (.loop A27o_1))
def A27o_7 : AC := (.seq (.seq (.reg [] [((jv 4 (.mov (jn 0))))] []) A27o_8) A27o_5)
def A27o_6 : AC := (.seq (.reg [.clr [7]] [(jm 5 0), ((jv 6 (.len (.t 5)))), (.mk (some 7) none false (.mk (.t 6) (.sl .nl .s 0 []) (.sl .nl .s 0 []))), (jm 3 7)] [.home 7 3]) A27o_7)
def A27o : AC := (.seq (.reg [] [((jv 2 (.mov (.k (.sl .nl .p 0 [])))))] []) A27o_6)
def an27o : List An := [{ id := 1, pre := [.clr [7]], ep := [.home 7 3], lin := [], sp := [2] }, { id := 5, pre := [.clr [20]], ep := [.can 3], lin := [], sp := [1006] }, { id := 6, pre := [], ep := [.home 3 2], lin := [], sp := [] }]
theorem c27o : cC Try.prog Try.f27.ntmps an27o (Try.f27.body.getD .skip) = some A27o := by kernel_rfl
structure H27o (D : Den) (σ : Sig) (F : Nat) : Prop where
  c18o : ∀ (x0 : (List Int)) r, w_toIntS_o F x0 = some r → D 1000000018 [Enc.enc x0] = some (encO .sh (r : NL Int))
  g18o : σ 1000000018 = some (1, false)
abbrev R27o (r : (NL (NL Int))) : (Nat → V) → Prop := RR Try.prog [.tmp 2] 2 false (encNs (r : NL (NL Int)))
section
variable {D : Den} {σ : Sig} {F : Nat} {r : (NL (NL Int))}
def w_toIntSS_o_l1 (F : Nat) (x_1 : (List (List Int)))  : Nat → (List (NL Int)) → Int → Option (NL (NL Int))
  | 0, _, _ => none
  | k + 1, out_6, x_7 =>
    bif decide (x_7 < (x_1.length : Int)) then
      (idx x_1 x_7).bind fun e_11 =>
      (w_toIntS_o F e_11).bind fun r_12 =>
      (idx out_6 x_7).bind fun e_13 =>
      (w_toIntSS_o_l1 F x_1 k) (out_6.set x_7.toNat r_12) (w64 (x_7 + 1))
    else
      some (.of out_6)
theorem t_f27o_l1 (H : H27o D σ F) (x_1 : (List (List Int)))  : ∀ (k : Nat) (out_6 : (List (NL Int))) (x_7 : Int) (s : Nat → V), Facts [(0, (Enc.enc (x_1 : List (List Int)))), (2, (.sl .nl (Enc.shp (List Int)) 0 [])), (3, (encN 3 [] (.of (out_6 : List (NL Int)) : NL (NL Int)))), (4, (ji x_7))] s → w_toIntSS_o_l1 F x_1 k out_6 x_7 = some r → Run D σ (R27o r) (.run A27o_1 [.lp A27o_1, .bk 0, .sq A27o_5]) s := by
  intro k
  induction k with
  | zero => intro out_6 x_7 s _ h; exact nomatch (h : (none : Option _) = some r)
  | succ k ih =>
    intro out_6 x_7 s hs h
    rw [w_toIntSS_o_l1] at h
    obtain ⟨h0, h2, h3, h4⟩ := hs
    refine .seq (.seq (rg (gm h4 fun h8 => gm h0 fun h9 => gv (ji (x_1.length : Int)) (ev_len (xs := x_1) h9) fun h10 => ?_)))
    refine g2 8 10 (jb (decide (x_7 < (x_1.length : Int)))) h8 h10 fun h11 => ?_
    refine gq (.nsq (run_cond (t := decide (x_7 < (x_1.length : Int))) h11 h (fun h => ?_) (fun h => ?_)))
    · refine .skip (.nsq (.seq (.block (run_reg ?_))))
      refine e_clr ?_
      refine ez [(0, _), (2, _), (3, _), (4, _), (20, _)] ⟨(keep_clear (pk := [20]) h0 rfl me), (keep_clear (pk := [20]) h2 rfl rfl), (keep_clear (pk := [20]) h3 rfl (map_encN (r := 3) (p := []) rfl (fun _ => rfl) rfl)), (keep_clear (pk := [20]) h4 rfl mi), (gone_clear (pk := [20]) (t := 20) rfl)⟩ ?_
      rintro s ⟨h0, h2, h3, h4, h20⟩
      refine gv (encN 3 [] (.of (out_6 : List (NL Int)) : NL (NL Int))) (ev_mov h3 ok_encN) fun h14 => ?_
      refine gm h4 fun h15 => gm h0 fun h16 => gm h4 fun h17 => ?_
      obtain ⟨e_11, E_e_11, h⟩ := bind_some h
      refine gv (.ref .sh 0 [] (eL e_11)) (ev_idx (t := .sh) (lo := 0) (xs := x_1) h16 h17 E_e_11 rfl rfl) fun h18 => ?_
      refine g1 18 (eL e_11) h18 fun h19 => ?_
      obtain ⟨r_12, E_r_12, h⟩ := bind_some h
      refine g_callO (m := 1) (al := false) (r := (encO .sh (r_12 : NL Int))) (v := (oI 20 [] r_12)) (kk := 1000000018) [Enc.enc (e_11 : (List Int))] (ta_cons (v := (eL e_11)) h19 rfl (Enc.erase_enc (e_11 : (List Int))) ta_nil) (H.c18o _ _ E_r_12) H.g18o rfl toks_encS tag_encO ok_encP h20 ?_
      obtain ⟨e_13, E_e_13, h⟩ := bind_some h
      refine gv (.ref (.at 3 []) x_7.toNat [] (oI 3 [x_7.toNat] e_13)) (ev_idxN (o := ((.of out_6) : NL (NL Int))) h14 h15 E_e_13 rfl) fun h21 => ?_
      refine g_store (oI 20 [] r_12) (rd_of h21 rfl) (rd_of rfl ok_encP) ⟨by decide, by decide, mem_encP, shp_encP, shp_encP, tok_encP rfl rfl⟩ ?_
      refine g_end ?_
      refine e_canSet (x := 3) (t := 20) (i := x_7.toNat) (os := (out_6.set x_7.toNat r_12 : List (NL Int))) rfl (keep_mut h3 (mut_setN (a := (r_12 : NL Int)) (os := out_6))) rfl (fun s_8 L_8 hv_8 hl_8 hg_8 => ?_)
      refine ez [(0, (Enc.enc (x_1 : List (List Int)))), (2, (.sl .nl (Enc.shp (List Int)) 0 [])), (3, (encN 3 [] (.of (out_6.set x_7.toNat r_12 : List (NL Int)) : NL (NL Int)))), (4, (ji x_7))] ⟨(show s_8 0 = (Enc.enc (x_1 : List (List Int))) from hg_8 0 _ _ (keep_mut h0 (Enc.mut_enc _ _ _ _ (x_1 : List (List Int)))) (Enc.map_enc _ (x_1 : List (List Int)))), (show s_8 2 = (.sl .nl (Enc.shp (List Int)) 0 []) from hg_8 2 _ _ (keep_mut h2 rfl) rfl), (show s_8 3 = (encN 3 [] (.of (out_6.set x_7.toNat r_12 : List (NL Int)) : NL (NL Int))) from hg_8 3 _ _ (keep_mut h3 (mut_setN (a := (r_12 : NL Int)) (os := out_6))) hv_8), (show s_8 4 = (ji x_7) from hg_8 4 _ _ (keep_mut h4 rfl) rfl)⟩ ?_
      rintro s ⟨h0, h2, h3, h4⟩
      refine .nbk (.nsq (rg (gm h4 fun h12 => g1 12 (ji (w64 (x_7 + 1))) h12 fun h13 => ?_)))
      refine gm h13 fun h4 => gq (.nlp ?_)
      exact ih (out_6.set x_7.toNat r_12) (w64 (x_7 + 1)) _ ⟨h0, h2, h3, h4⟩ h
    refine .exit (.esq (.elp (.ebk (.nsq (.seq (rg (gv (encN 3 [] (.of (out_6 : List (NL Int)) : NL (NL Int))) (ev_mov h3 ok_encN) fun h22 => ?_)))))))
    refine gv (encN 3 [] (.of (out_6 : List (NL Int)) : NL (NL Int))) (ev_mov h22 ok_encN) fun h2 => ?_
    refine g_end ?_
    refine e_home (r := 3) (x := 2) (v := _) h2 ok_encN (fun s_9 hg_9 => ?_)
    refine ez [(2, (encN 2 [] (.of (out_6 : List (NL Int)) : NL (NL Int))))] (hg_9 2 _ _ h2 (map_encN (r := 3) (p := []) rfl (fun _ => rfl) rfl)) ?_
    rintro s h2
    refine .nsq (.ret ?_)
    have hr := Option.some.inj h
    subst hr
    exact rrA (res_tmp h2) (fin_retN (finN_N (r := 2) (o := ((.of out_6) : NL (NL Int))) rfl) (mine_N rfl))
def w_toIntSS_o (F : Nat) (x_1 : (List (List Int))) : Option (NL (NL Int)) :=
  (mkN (x_1.length : Int) (.nil : NL Int)).bind fun mk_2 =>
  w_toIntSS_o_l1 F x_1 F mk_2 0
theorem t27o (H : H27o D σ F) (x_1 : (List (List Int))) (s : Nat → V) (hs : Facts [(0, (Enc.enc (x_1 : List (List Int))))] s) (h : w_toIntSS_o F x_1 = some r) : Run D σ (R27o r) (.run A27o []) s := by
  unfold w_toIntSS_o at h
  have h0 := hs
  refine .seq (rg (g0 (.sl .nl (Enc.shp (List Int)) 0 []) fun h2 => ?_))
  refine gq (.nsq (.seq (run_reg ?_)))
  refine e_clr ?_
  refine ez [(0, _), (2, _), (7, _)] ⟨(keep_clear (pk := [7]) h0 rfl me), (keep_clear (pk := [7]) h2 rfl rfl), (gone_clear (pk := [7]) (t := 7) rfl)⟩ ?_
  rintro s ⟨h0, h2, h7⟩
  refine gm h0 fun h5 => gv (ji (x_1.length : Int)) (ev_len (xs := x_1) h5) fun h6 => ?_
  obtain ⟨mk_2, E_mk_2, h⟩ := bind_some h
  refine g_mkN (α := Int) h6 rfl h7 E_mk_2 ?_
  refine gv (encN 7 [] (.of (mk_2 : List (NL Int)) : NL (NL Int))) (ev_mov rfl ok_encN) fun h3 => ?_
  refine g_end ?_
  refine e_home (r := 7) (x := 3) (v := _) h3 ok_encN (fun s_2 hg_2 => ?_)
  refine ez [(0, (Enc.enc (x_1 : List (List Int)))), (2, (.sl .nl (Enc.shp (List Int)) 0 [])), (3, (encN 3 [] (.of (mk_2 : List (NL Int)) : NL (NL Int))))] ⟨(hg_2 0 _ _ h0 me), (hg_2 2 _ (.sl .nl (Enc.shp (List Int)) 0 []) h2 rfl), (hg_2 3 _ _ h3 (map_encN (r := 7) (p := []) rfl (fun _ => rfl) rfl))⟩ ?_
  rintro s ⟨h0, h2, h3⟩
  refine .nsq (.seq (.seq (rg (g0 (ji 0) fun h4 => gq (.nsq (.block (.loop ?_)))))))
  exact t_f27o_l1 H x_1 F mk_2 0 _ ⟨h0, h2, h3, h4⟩ h
end
def e27o (F : Nat) : Ent := ent 1000000027 (fun (x : ((List (List Int)) × Unit)) => w_toIntSS_o F x.1) (fun (r : (NL (NL Int))) => (encNs (r : NL (NL Int)))) 2 false []
theorem p27o {F : Nat} {x0 : (List (List Int))} {r : (NL (NL Int))} (h : w_toIntSS_o F x0 = some r) : (e27o F).den [Enc.enc x0] = some (encNs (r : NL (NL Int))) := ent_put (x0, ()) h
theorem o27o {D : Den} {σ : Sig} {F : Nat} (hF : Fits2 Try.prog D σ) (H : H27o D σ F) : (e27o F).Ok Try.prog := by
  refine ok_of (f := 27) (show unk 1000000027 = 27 from rfl) (fun args r h => ?_) ⟨Try.f27, Try.func27, rfl, rfl⟩
  obtain ⟨⟨x0, _⟩, y, rfl, hy, rfl⟩ := da_open h
  exact contract_run hF (by kernel_rfl) Try.func27 rfl c27o (show 1 ≤ Try.f27.ntmps by decide) (t27o H x0 _ rfl hy)
/- loop.example/g01109/laws.markIntS -/
def A23_2 : AC := (.cond (.t 9) .skip (.exit 0))
def A23_4 : AC := (.reg [] [(jm 16 1), ((jv 17 (.bin .add (.t 16) (jn 1)))), (jm 1 17)] [])
def A23_5 : AC := (.reg [] [(jm 10 5), ((jv 11 (.bin .add (.t 10) (jn 1)))), (jm 5 11)] [])
def A23_3 : AC := (.seq (.block 1 (.seq (.reg [] [(jm 12 0), (jm 13 5), (jm 14 1), ((jv 15 (.idx (.t 12) (.t 13) 1))), (.mk none none false (.store .s (.t 15) (.t 14)))] []) A23_4)) A23_5)
def A23_1 : AC := (.seq (.seq (.reg [] [(jm 6 5), (jm 7 0), ((jv 8 (.len (.t 7)))), ((jv 9 (.bin .lss (.t 6) (.t 8))))] []) A23_2) A23_3)
def A23_6 : AC := (.seq (.reg [] [(jm 18 1), (jm 4 18)] []) .ret)
def A23_8 : AC := (.block 0 (.loop A23_1))
def A23_7 : AC := (.seq (.seq (.reg [] [((jv 5 (.mov (jn 0))))] []) A23_8) A23_6)
def A23 : AC := (.seq (.reg [] [((jv 4 (.mov (jn 0))))] []) A23_7)
def an23 : List An := []
theorem c23 : cC Try.prog Try.f23.ntmps an23 (Try.f23.body.getD .skip) = some A23 := by kernel_rfl
structure H23 (D : Den) (σ : Sig) (F : Nat) : Prop where
  mk ::
abbrev R23 (r : (Int × NL Int)) : (Nat → V) → Prop := RM Try.prog [.tmp 4] (Enc.enc (r.1 : Int)) (encO (.at pinR []) (r.2 : NL Int))
section
variable {D : Den} {σ : Sig} {F : Nat} {r : (Int × NL Int)}
def w_markIntS_l1 (F : Nat)   : Nat → (NL Int) → Int → Int → Option (Int × NL Int)
  | 0, _, _, _ => none
  | k + 1, x_4, x_5, x_6 =>
    bif decide (x_6 < (x_4.list.length : Int)) then
      (idx x_4.list x_6).bind fun e_8 =>
      (w_markIntS_l1 F k) (NL.set x_4 x_6.toNat x_5) (w64 (x_5 + 1)) (w64 (x_6 + 1))
    else
      some (x_5, x_4)
theorem t_f23_l1 (H : H23 D σ F)   : ∀ (k : Nat) (x_4 : (NL Int)) (x_5 : Int) (x_6 : Int) (s : Nat → V), Facts [(0, (oI pinR [] x_4)), (1, (ji x_5)), (4, (ji 0)), (5, (ji x_6))] s → w_markIntS_l1 F k x_4 x_5 x_6 = some r → Run D σ (R23 r) (.run A23_1 [.lp A23_1, .bk 0, .sq A23_6]) s := by
  intro k
  induction k with
  | zero => intro x_4 x_5 x_6 s _ h; exact nomatch (h : (none : Option _) = some r)
  | succ k ih =>
    intro x_4 x_5 x_6 s hs h
    rw [w_markIntS_l1] at h
    obtain ⟨h0, h1, h4, h5⟩ := hs
    refine .seq (.seq (rg (gm h5 fun h6 => gv (oI pinR [] x_4) (ev_mov h0 ok_encO) fun h7 => ?_)))
    refine gv (ji (x_4.list.length : Int)) (ev_lenO (o := x_4) h7) fun h8 => ?_
    refine g2 6 8 (jb (decide (x_6 < (x_4.list.length : Int)))) h6 h8 fun h9 => ?_
    refine gq (.nsq (run_cond (t := decide (x_6 < (x_4.list.length : Int))) h9 h (fun h => ?_) (fun h => ?_)))
    · refine .skip (.nsq (.seq (.block (.seq (rg (gv (oI pinR [] x_4) (ev_mov h0 ok_encO) fun h12 => ?_))))))
      refine gm h5 fun h13 => gm h1 fun h14 => ?_
      obtain ⟨e_8, E_e_8, h⟩ := bind_some h
      refine gv (.ref (.at pinR []) x_6.toNat [] (ji e_8)) (ev_idxO (o := x_4) h12 h13 E_e_8 rfl) fun h15 => ?_
      refine g_store (ji x_5) (rd_of h15 rfl) (rd_of h14 rfl) (by refine ⟨by decide, by decide, rfl, rfl, rfl, ?_⟩; first | rfl | simp [V.toks, V.tokss, Enc.toks_enc]) ?_
      refine gz [(0, _), (1, (ji x_5)), (4, (ji 0)), (5, (ji x_6))] ⟨(keep_mut h0 (mut_ownN (α := Int) (u := x_5) (i := x_6.toNat) (o := x_4))), (keep_mut h1 rfl), (keep_mut h4 rfl), (keep_mut h5 rfl)⟩ ?_
      rintro s ⟨h0, h1, h4, h5⟩
      refine .nsq (rg (gm h1 fun h16 => g1 16 (ji (w64 (x_5 + 1))) h16 fun h17 => ?_))
      refine gm h17 fun h1 => gq (.nbk (.nsq (rg (gm h5 fun h10 => g1 10 (ji (w64 (x_6 + 1))) h10 fun h11 => ?_))))
      refine gm h11 fun h5 => gq (.nlp ?_)
      exact ih (NL.set x_4 x_6.toNat x_5) (w64 (x_5 + 1)) (w64 (x_6 + 1)) _ ⟨h0, h1, h4, h5⟩ h
    refine .exit (.esq (.elp (.ebk (.nsq (.seq (rg (gm h1 fun h18 => gm h18 fun h4 => gq (.nsq (.ret ?_)))))))))
    have hr := Option.some.inj h
    subst hr
    exact rmA (res_tmp h4) h0
def w_markIntS (F : Nat) (x_1 : (On Int)) (x_2 : Int) : Option (Int × NL Int) :=
  w_markIntS_l1 F F x_1.v x_2 0
theorem t23 (H : H23 D σ F) (x_1 : (On Int)) (x_2 : Int) (s : Nat → V) (hs : Facts [(0, (oI pinR [] x_1.v)), (1, (ji x_2))] s) (h : w_markIntS F x_1 x_2 = some r) : Run D σ (R23 r) (.run A23 []) s := by
  unfold w_markIntS at h
  obtain ⟨h0, h1⟩ := hs
  refine .seq (rg (g0 (ji 0) fun h4 => gq (.nsq (.seq (.seq (rg (g0 (ji 0) fun h5 => gq (.nsq (.block (.loop ?_))))))))))
  exact t_f23_l1 H F x_1.v x_2 0 _ ⟨h0, h1, h4, h5⟩ h
end
def e23 (F : Nat) : Ent := ent 23 (fun (x : ((On Int) × Int × Unit)) => w_markIntS F x.1 x.2.1) (fun (r : (Int × NL Int)) => (.tup [Enc.enc (r.1 : Int), encO (.at pinR []) (r.2 : NL Int)])) pinR false []
theorem p23 {F : Nat} {x0 : (On Int)} {x1 : Int} {r : (Int × NL Int)} (h : w_markIntS F x0 x1 = some r) : (e23 F).den [Arg.arg x0, Enc.enc x1] = some (.tup [Enc.enc (r.1 : Int), encO (.at pinR []) (r.2 : NL Int)]) := ent_put (x0, x1, ()) h
theorem o23 {D : Den} {σ : Sig} {F : Nat} (hF : Fits2 Try.prog D σ) (H : H23 D σ F) : (e23 F).Ok Try.prog := by
  refine ok_of (f := 23) (show unk 23 = 23 from rfl) (fun args r h => ?_) ⟨Try.f23, Try.func23, rfl, rfl⟩
  obtain ⟨⟨x0, x1, _⟩, y, rfl, hy, rfl⟩ := da_open h
  exact contractM_run hF (by kernel_rfl) Try.func23 rfl c23 (all_ok2 ok_encP rfl) (show 2 ≤ Try.f23.ntmps by decide) (by decide) (t23 H x0 x1 _ ⟨rfl, rfl⟩ hy)
/- loop.example/g01109/laws.markIntSS -/
def A30_2 : AC := (.cond (.t 9) .skip (.exit 0))
def A30_4 : AC := (.reg [] [(jm 10 5), ((jv 11 (.bin .add (.t 10) (jn 1)))), (jm 5 11)] [])
def A30_3 : AC := (.seq (.block 1 (.reg [] [(jm 12 0), (jm 13 5), ((jv 14 (.idx (.t 12) (.t 13) 1))), ((jv 15 (.load .p (.t 14)))), (jm 16 1), (.mk (some 17) none false (.mark (.k (.fn 23 [] [])) [(.t 15), (.t 16)])), (jm 1 17)] [])) A30_4)
def A30_1 : AC := (.seq (.seq (.reg [] [(jm 6 5), (jm 7 0), ((jv 8 (.len (.t 7)))), ((jv 9 (.bin .lss (.t 6) (.t 8))))] []) A30_2) A30_3)
def A30_5 : AC := (.seq (.reg [] [(jm 18 1), (jm 4 18)] []) .ret)
def A30_7 : AC := (.block 0 (.loop A30_1))
def A30_6 : AC := (.seq (.seq (.reg [] [((jv 5 (.mov (jn 0))))] []) A30_7) A30_5)
def A30 : AC := (.seq (.reg [] [((jv 4 (.mov (jn 0))))] []) A30_6)
def an30 : List An := [{ id := 4, pre := [], ep := [], lin := [], sp := [5] }]
theorem c30 : cC Try.prog Try.f30.ntmps an30 (Try.f30.body.getD .skip) = some A30 := by kernel_rfl
structure H30 (D : Den) (σ : Sig) (F : Nat) : Prop where
  c23 : ∀ (x0 : (On Int)) (x1 : Int) r, w_markIntS F x0 x1 = some r → D 23 [Arg.arg x0, Enc.enc x1] = some (.tup [Enc.enc (r.1 : Int), encO (.at pinR []) (r.2 : NL Int)])
  g23 : σ 23 = some (pinR, false)
abbrev R30 (r : (Int × NL (NL Int))) : (Nat → V) → Prop := RM Try.prog [.tmp 4] (Enc.enc (r.1 : Int)) (encN pinR [] (r.2 : NL (NL Int)))
section
variable {D : Den} {σ : Sig} {F : Nat} {r : (Int × NL (NL Int))}
def w_markIntSS_l1 (F : Nat)   : Nat → (NL (NL Int)) → Int → Int → Option (Int × NL (NL Int))
  | 0, _, _, _ => none
  | k + 1, x_6, x_7, x_8 =>
    bif decide (x_8 < (x_6.list.length : Int)) then
      (idx x_6.list x_8).bind fun e_12 =>
      (w_markIntS F (On.mk e_12 : (On Int)) x_7).bind fun r_13 =>
      (remark e_12 r_13.2).bind fun m_14 =>
      (w_markIntSS_l1 F k) (NL.set x_6 x_8.toNat m_14) r_13.1 (w64 (x_8 + 1))
    else
      some (x_7, x_6)
theorem t_f30_l1 (H : H30 D σ F)   : ∀ (k : Nat) (x_6 : (NL (NL Int))) (x_7 : Int) (x_8 : Int) (s : Nat → V), Facts [(0, (encN pinR [] (x_6 : NL (NL Int)))), (1, (ji x_7)), (4, (ji 0)), (5, (ji x_8))] s → w_markIntSS_l1 F k x_6 x_7 x_8 = some r → Run D σ (R30 r) (.run A30_1 [.lp A30_1, .bk 0, .sq A30_5]) s := by
  intro k
  induction k with
  | zero => intro x_6 x_7 x_8 s _ h; exact nomatch (h : (none : Option _) = some r)
  | succ k ih =>
    intro x_6 x_7 x_8 s hs h
    rw [w_markIntSS_l1] at h
    obtain ⟨h0, h1, h4, h5⟩ := hs
    refine .seq (.seq (rg (gm h5 fun h6 => gv (encN pinR [] (x_6 : NL (NL Int))) (ev_mov h0 ok_encN) fun h7 => ?_)))
    refine gv (ji (x_6.list.length : Int)) (ev_lenN (o := (x_6 : NL (NL Int))) h7) fun h8 => ?_
    refine g2 6 8 (jb (decide (x_8 < (x_6.list.length : Int)))) h6 h8 fun h9 => ?_
    refine gq (.nsq (run_cond (t := decide (x_8 < (x_6.list.length : Int))) h9 h (fun h => ?_) (fun h => ?_)))
    · refine .skip (.nsq (.seq (.block (rg (gv (encN pinR [] (x_6 : NL (NL Int))) (ev_mov h0 ok_encN) fun h12 => ?_)))))
      refine gm h5 fun h13 => ?_
      obtain ⟨e_12, E_e_12, h⟩ := bind_some h
      refine gv (.ref (.at pinR []) x_8.toNat [] (oI pinR [x_8.toNat] e_12)) (ev_idxN (o := (x_6 : NL (NL Int))) h12 h13 E_e_12 rfl) fun h14 => ?_
      refine gv (oI pinR [x_8.toNat] e_12) (ev_loadN h14 beq_encO) fun h15 => ?_
      refine gm h1 fun h16 => ?_
      obtain ⟨r_13, E_r_13, h⟩ := bind_some h
      obtain ⟨m_14, E_m_14, h⟩ := bind_some h
      refine g_mark (v := (oI pinR [x_8.toNat] e_12)) h15 (canon_own (o := (e_12 : (NL Int))) rfl) (rdAll_cons (v := (ji x_7)) h16 rfl rdAll_nil) (H.c23 _ _ _ E_r_13) H.g23 rfl rfl (fun s_3 hm_3 => ?_)
      refine gm (rfl : (_ : V) = (ji r_13.1)) fun h1 => ?_
      refine gz [(0, (encN pinR [] ((NL.set x_6 x_8.toNat m_14) : NL (NL Int)))), (1, _), (4, (ji 0)), (5, (ji x_8))] ⟨(show s_3 0 = (encN pinR [] ((NL.set x_6 x_8.toNat m_14) : NL (NL Int))) from hm_3 0 (encN pinR [] (x_6 : NL (NL Int))) (encN pinR [] ((NL.set x_6 x_8.toNat m_14) : NL (NL Int))) h0 (rem_rowN (r := pinR) (p := []) (o := (x_6 : NL (NL Int))) rfl E_e_12 E_m_14)), h1, (show s_3 4 = (ji 0) from hm_3 4 (ji 0) (ji 0) h4 (rem_self _ rfl)), (show s_3 5 = (ji x_8) from hm_3 5 (ji x_8) (ji x_8) h5 (rem_self _ rfl))⟩ ?_
      rintro s ⟨h0, h1, h4, h5⟩
      refine .nbk (.nsq (rg (gm h5 fun h10 => g1 10 (ji (w64 (x_8 + 1))) h10 fun h11 => ?_)))
      refine gm h11 fun h5 => gq (.nlp ?_)
      exact ih (NL.set x_6 x_8.toNat m_14) r_13.1 (w64 (x_8 + 1)) _ ⟨h0, h1, h4, h5⟩ h
    refine .exit (.esq (.elp (.ebk (.nsq (.seq (rg (gm h1 fun h18 => gm h18 fun h4 => gq (.nsq (.ret ?_)))))))))
    have hr := Option.some.inj h
    subst hr
    exact rmA (res_tmp h4) h0
def w_markIntSS (F : Nat) (x_1 : (On2 Int)) (x_2 : Int) : Option (Int × NL (NL Int)) :=
  w_markIntSS_l1 F F x_1.v x_2 0
theorem t30 (H : H30 D σ F) (x_1 : (On2 Int)) (x_2 : Int) (s : Nat → V) (hs : Facts [(0, (encN pinR [] (x_1.v : NL (NL Int)))), (1, (ji x_2))] s) (h : w_markIntSS F x_1 x_2 = some r) : Run D σ (R30 r) (.run A30 []) s := by
  unfold w_markIntSS at h
  obtain ⟨h0, h1⟩ := hs
  refine .seq (rg (g0 (ji 0) fun h4 => gq (.nsq (.seq (.seq (rg (g0 (ji 0) fun h5 => gq (.nsq (.block (.loop ?_))))))))))
  exact t_f30_l1 H F x_1.v x_2 0 _ ⟨h0, h1, h4, h5⟩ h
end
def e30 (F : Nat) : Ent := ent 30 (fun (x : ((On2 Int) × Int × Unit)) => w_markIntSS F x.1 x.2.1) (fun (r : (Int × NL (NL Int))) => (.tup [Enc.enc (r.1 : Int), encN pinR [] (r.2 : NL (NL Int))])) pinR false []
theorem p30 {F : Nat} {x0 : (On2 Int)} {x1 : Int} {r : (Int × NL (NL Int))} (h : w_markIntSS F x0 x1 = some r) : (e30 F).den [Arg.arg x0, Enc.enc x1] = some (.tup [Enc.enc (r.1 : Int), encN pinR [] (r.2 : NL (NL Int))]) := ent_put (x0, x1, ()) h
theorem o30 {D : Den} {σ : Sig} {F : Nat} (hF : Fits2 Try.prog D σ) (H : H30 D σ F) : (e30 F).Ok Try.prog := by
  refine ok_of (f := 30) (show unk 30 = 30 from rfl) (fun args r h => ?_) ⟨Try.f30, Try.func30, rfl, rfl⟩
  obtain ⟨⟨x0, x1, _⟩, y, rfl, hy, rfl⟩ := da_open h
  exact contractM_run hF (by kernel_rfl) Try.func30 rfl c30 (all_ok2 ok_encN rfl) (show 2 ≤ Try.f30.ntmps by decide) (by decide) (t30 H x0 x1 _ ⟨rfl, rfl⟩ hy)
/- loop.example/g01109/laws.heldIntS -/
def A31_2 : AC := (.cond (.t 9) .skip (.exit 0))
def A31_4 : AC := (.cond (.t 17) (.seq (.reg [] [((jv 4 (.mov (jn (-1)))))] []) .ret) .skip)
def A31_5 : AC := (.reg [] [(jm 18 1), ((jv 19 (.bin .add (.t 18) (jn 1)))), (jm 1 19)] [])
def A31_6 : AC := (.reg [] [(jm 10 5), ((jv 11 (.bin .add (.t 10) (jn 1)))), (jm 5 11)] [])
def A31_3 : AC := (.seq (.block 1 (.seq (.seq (.reg [] [(jm 12 0), (jm 13 5), ((jv 14 (.idx (.t 12) (.t 13) 1))), ((jv 15 (.load .s (.t 14)))), (jm 16 1), ((jv 17 (.bin .neq (.t 15) (.t 16))))] []) A31_4) A31_5)) A31_6)
def A31_1 : AC := (.seq (.seq (.reg [] [(jm 6 5), (jm 7 0), ((jv 8 (.len (.t 7)))), ((jv 9 (.bin .lss (.t 6) (.t 8))))] []) A31_2) A31_3)
def A31_7 : AC := (.seq (.reg [] [(jm 20 1), (jm 4 20)] []) .ret)
def A31_9 : AC := (.block 0 (.loop A31_1))
def A31_8 : AC := (.seq (.seq (.reg [] [((jv 5 (.mov (jn 0))))] []) A31_9) A31_7)
def A31 : AC := (.seq (.reg [] [((jv 4 (.mov (jn 0))))] []) A31_8)
def an31 : List An := []
theorem c31 : cC Try.prog Try.f31.ntmps an31 (Try.f31.body.getD .skip) = some A31 := by kernel_rfl
structure H31 (D : Den) (σ : Sig) (F : Nat) : Prop where
  mk ::
abbrev R31 (r : Int) : (Nat → V) → Prop := RR Try.prog [.tmp 4] 0 false (Enc.enc (r : Int))
section
variable {D : Den} {σ : Sig} {F : Nat} {r : Int}
def w_heldIntS_l1 (F : Nat) (x_1 : (List Int))  : Nat → Int → Int → Option Int
  | 0, _, _ => none
  | k + 1, x_4, x_5 =>
    bif decide (x_5 < (x_1.length : Int)) then
      (idx x_1 x_5).bind fun e_7 =>
      bif (e_7 != x_4) then
        some (-1)
      else
        (w_heldIntS_l1 F x_1 k) (w64 (x_4 + 1)) (w64 (x_5 + 1))
    else
      some x_4
theorem t_f31_l1 (H : H31 D σ F) (x_1 : (List Int))  : ∀ (k : Nat) (x_4 : Int) (x_5 : Int) (s : Nat → V), Facts [(0, (eL x_1)), (1, (ji x_4)), (4, (ji 0)), (5, (ji x_5))] s → w_heldIntS_l1 F x_1 k x_4 x_5 = some r → Run D σ (R31 r) (.run A31_1 [.lp A31_1, .bk 0, .sq A31_7]) s := by
  intro k
  induction k with
  | zero => intro x_4 x_5 s _ h; exact nomatch (h : (none : Option _) = some r)
  | succ k ih =>
    intro x_4 x_5 s hs h
    rw [w_heldIntS_l1] at h
    obtain ⟨h0, h1, h4, h5⟩ := hs
    refine .seq (.seq (rg (gm h5 fun h6 => gm h0 fun h7 => gv (ji (x_1.length : Int)) (ev_len (xs := x_1) h7) fun h8 => ?_)))
    refine g2 6 8 (jb (decide (x_5 < (x_1.length : Int)))) h6 h8 fun h9 => ?_
    refine gq (.nsq (run_cond (t := decide (x_5 < (x_1.length : Int))) h9 h (fun h => ?_) (fun h => ?_)))
    · refine .skip (.nsq (.seq (.block (.seq (.seq (rg (gm h0 fun h12 => gm h5 fun h13 => ?_)))))))
      obtain ⟨e_7, E_e_7, h⟩ := bind_some h
      refine gv (.ref .sh 0 [] (ji e_7)) (ev_idx (t := .sh) (lo := 0) (xs := x_1) h12 h13 E_e_7 rfl rfl) fun h14 => ?_
      refine g1 14 (ji e_7) h14 fun h15 => ?_
      refine gm h1 fun h16 => g2 15 16 (jb (e_7 != x_4)) h15 h16 fun h17 => ?_
      refine gq (.nsq (run_cond (t := (e_7 != x_4)) h17 h (fun h => ?_) (fun h => ?_)))
      · refine .seq (rg (g0 (ji (-1)) fun h4 => ?_))
        refine gq (.nsq (.ret ?_))
        have hr := Option.some.inj h
        subst hr
        exact rrA (res_tmp h4) rfl
      refine .skip (.nsq (rg (gm h1 fun h18 => g1 18 (ji (w64 (x_4 + 1))) h18 fun h19 => ?_)))
      refine gm h19 fun h1 => gq (.nbk (.nsq (rg (gm h5 fun h10 => g1 10 (ji (w64 (x_5 + 1))) h10 fun h11 => ?_))))
      refine gm h11 fun h5 => gq (.nlp ?_)
      exact ih (w64 (x_4 + 1)) (w64 (x_5 + 1)) _ ⟨h0, h1, h4, h5⟩ h
    refine .exit (.esq (.elp (.ebk (.nsq (.seq (rg (gm h1 fun h20 => gm h20 fun h4 => gq (.nsq (.ret ?_)))))))))
    have hr := Option.some.inj h
    subst hr
    exact rrA (res_tmp h4) rfl
def w_heldIntS (F : Nat) (x_1 : (List Int)) (x_2 : Int) : Option Int :=
  w_heldIntS_l1 F x_1 F x_2 0
theorem t31 (H : H31 D σ F) (x_1 : (List Int)) (x_2 : Int) (s : Nat → V) (hs : Facts [(0, (eL x_1)), (1, (ji x_2))] s) (h : w_heldIntS F x_1 x_2 = some r) : Run D σ (R31 r) (.run A31 []) s := by
  unfold w_heldIntS at h
  obtain ⟨h0, h1⟩ := hs
  refine .seq (rg (g0 (ji 0) fun h4 => gq (.nsq (.seq (.seq (rg (g0 (ji 0) fun h5 => gq (.nsq (.block (.loop ?_))))))))))
  exact t_f31_l1 H x_1 F x_2 0 _ ⟨h0, h1, h4, h5⟩ h
end
def e31 (F : Nat) : Ent := ent 31 (fun (x : ((List Int) × Int × Unit)) => w_heldIntS F x.1 x.2.1) (fun (r : Int) => (Enc.enc (r : Int))) 0 false []
theorem p31 {F : Nat} {x0 : (List Int)} {x1 : Int} {r : Int} (h : w_heldIntS F x0 x1 = some r) : (e31 F).den [Enc.enc x0, Enc.enc x1] = some (Enc.enc (r : Int)) := ent_put (x0, x1, ()) h
theorem o31 {D : Den} {σ : Sig} {F : Nat} (hF : Fits2 Try.prog D σ) (H : H31 D σ F) : (e31 F).Ok Try.prog := by
  refine ok_of (f := 31) (show unk 31 = 31 from rfl) (fun args r h => ?_) ⟨Try.f31, Try.func31, rfl, rfl⟩
  obtain ⟨⟨x0, x1, _⟩, y, rfl, hy, rfl⟩ := da_open h
  exact contract_run hF (by kernel_rfl) Try.func31 rfl c31 (show 2 ≤ Try.f31.ntmps by decide) (t31 H x0 x1 _ ⟨rfl, rfl⟩ hy)
end Go.Zq
