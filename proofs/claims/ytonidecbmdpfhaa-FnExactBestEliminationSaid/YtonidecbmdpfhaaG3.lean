/- Functions of the program as typed functions, and that the machine runs as they say (part 3). No further condition. -/
import Derived.Test.YtonidecbmdpfhaaK3
import Derived.Test.YtonidecbmdpfhaaProg
import Derived.Test.YtonidecbmdpfhaaChecked
import Derived.KernelRfl
import Derived.Test.YtonidecbmdpfhaaG2
set_option linter.unusedVariables false
set_option linter.unusedSimpArgs false
/- Functions of the program, as typed functions, and that the machine runs as they say. -/
namespace Go.Zq
open Go.Proofs
/- math/bits.OnesCount -/
def A67_2 : AC := (.seq (.reg [] [(.mk (some 6) none false (.v (.mov (.t 0)))), (.mk (some 7) none false (.call (.k (.fn 109 [] [])) [(.t 6)])), (.mk (some 2) none false (.v (.mov (.t 7))))] []) .ret)
def A67_1 : AC := (.seq (.cond (.k (.bool false)) (.seq (.reg [] [(.mk (some 3) none false (.v (.mov (.t 0)))), (.mk (some 4) none false (.v (.conv .u32 (.t 3)))), (.mk (some 5) none false (.call (.k (.fn 108 [] [])) [(.t 4)])), (.mk (some 2) none false (.v (.mov (.t 5))))] []) .ret) .skip) A67_2)
def A67 : AC := (.seq (.reg [] [(.mk (some 2) none false (.v (.mov (.k (.int .i64 (.ofNat 0))))))] []) A67_1)
def an67 : List An := []
theorem c67 : cC Try.prog Try.f67.ntmps an67 (Try.f67.body.getD .skip) = some A67 := by kernel_rfl
structure H67 (D : Den) (σ : Sig) (F : Nat) : Prop where
  c109 : ∀ (x0 : (Kd .u64)) r, bits_OnesCount64 F x0 = some r → D 109 [Enc.enc x0] = some (Enc.enc (r : Int))
  g109 : σ 109 = some (0, false)
abbrev R67 (r : Int) : (Nat → V) → Prop := RR Try.prog [.tmp 2] 0 false (Enc.enc (r : Int))
section
variable {D : Den} {σ : Sig} {F : Nat} {r : Int}
def bits_OnesCount (F : Nat) (x_1 : (Kd .u64)) : Option Int :=
  (bits_OnesCount64 F (Kd.mk x_1.v : Kd .u64)).bind fun r_2 =>
  some r_2
theorem t67 (H : H67 D σ F) (x_1 : (Kd .u64)) (s : Nat → V) (hs : Facts [(0, (.int .u64 x_1.v))] s) (h : bits_OnesCount F x_1 = some r) : Run D σ (R67 r) (.run A67 []) s := by
  unfold bits_OnesCount at h
  have h0 := hs
  refine .seq ?_
  refine run_reg ?_
  refine e_end ?_
  refine g_v0 (.int .i64 0) rfl rfl ?_
  refine g_end ?_
  refine e_end ?_
  refine renew [(0, (.int .u64 x_1.v)), (2, (.int .i64 0))] ⟨h0, rfl⟩ ?_
  rintro s ⟨h0, h2⟩
  refine .nsq ?_
  refine .seq ?_
  refine run_condF rfl ?_
  refine .skip ?_
  refine .nsq ?_
  refine .seq ?_
  refine run_reg ?_
  refine e_end ?_
  refine g_v1 (t := 0) (u := (.int .u64 x_1.v)) (.int .u64 x_1.v) h0 rfl rfl ?_
  obtain ⟨r_2, E_r_2, h⟩ := bind_some h
  refine g_call (m := 0) (al := false) (r := (Enc.enc (r_2 : Int))) [Enc.enc ((Kd.mk x_1.v : Kd .u64) : (Kd .u64))] (ta_cons (v := (.int .u64 x_1.v)) rfl rfl rfl ta_nil) (H.c109 _ _ E_r_2) H.g109 rfl rfl rfl rfl ?_
  refine g_v1 (t := 7) (u := (.int .i64 r_2)) (.int .i64 r_2) rfl rfl rfl ?_
  refine g_end ?_
  refine e_end ?_
  refine renew [(2, (.int .i64 r_2))] rfl ?_
  rintro s h2
  refine .nsq ?_
  refine .ret ?_
  have hr := Option.some.inj h
  subst hr
  exact rrA (res_tmp h2) rfl
end
def e67 (F : Nat) : Ent := ⟨67, da (fun (x : ((Kd .u64) × Unit)) => bits_OnesCount F x.1) (fun (r : Int) => (Enc.enc (r : Int))), 0, false, selF []⟩
theorem p67 {F : Nat} {x0 : (Kd .u64)} {r : Int} (h : bits_OnesCount F x0 = some r) : (e67 F).den [Enc.enc x0] = some (Enc.enc (r : Int)) := da_put (f := fun (x : ((Kd .u64) × Unit)) => bits_OnesCount F x.1) (t := fun (r : Int) => (Enc.enc (r : Int))) (x0, ()) h
theorem o67 {D : Den} {σ : Sig} {F : Nat} (hF : Fits2 Try.prog D σ) (H : H67 D σ F) : (e67 F).Ok Try.prog := by
  refine ok_of (f := 67) (show unk 67 = 67 from rfl) (fun args r h => ?_) ⟨Try.f67, Try.func67, rfl, rfl⟩
  obtain ⟨⟨x0, _⟩, y, rfl, hy, rfl⟩ := da_open h
  exact contract_run hF (by kernel_rfl) Try.func67 rfl c67 (show 1 ≤ Try.f67.ntmps by decide) (t67 H x0 _ rfl hy)
/- (loop.example/g01109/impl.net).eliminated -/
def A94_3 : AC := (.cond (.t 21) (.exit 0) .skip)
def A94_4 : AC := (.reg [] [(.mk (some 22) none false (.v (.mov (.t 8)))), (.mk (some 7) none false (.v (.mov (.t 22))))] [])
def A94_2 : AC := (.seq (.seq (.reg [] [(.mk (some 19) none false (.v (.mov (.t 8)))), (.mk (some 20) none false (.v (.mov (.t 7)))), (.mk (some 21) none false (.v (.bin .eql (.t 19) (.t 20))))] []) A94_3) A94_4)
def A94_1 : AC := (.block 1 (.seq (.reg [] [(.mk (some 11) none false (.v (.load (.ag [.p]) (.t 3)))), (.mk (some 12) none false (.v (.mov (.t 7)))), (.mk (some 13) none false (.v (.mov (.t 1)))), (.mk (some 14) none false (.v (.mov (.t 2)))), (.mk (some 15) none false (.v (.bin .shl (.k (.int .i64 (.ofNat 1))) (.t 14)))), (.mk (some 16) none false (.v (.bin .or (.t 13) (.t 15)))), (.mk (some 17) none false (.v (.bin .and (.t 12) (.t 16)))), (.mk (some 18) none false (.call (.k (.fn 122 [] [])) [(.t 11), (.t 17)])), (.mk (some 8) none false (.v (.mov (.t 18))))] []) A94_2))
def A94_5 : AC := (.seq (.reg [] [(.mk (some 23) none false (.v (.mov (.t 7)))), (.mk (some 24) none false (.v (.mov (.t 1)))), (.mk (some 25) none false (.v (.bin .andNot (.t 23) (.t 24)))), (.mk (some 26) none false (.v (.mov (.t 2)))), (.mk (some 27) none false (.v (.bin .shl (.k (.int .i64 (.ofNat 1))) (.t 26)))), (.mk (some 28) none false (.v (.bin .andNot (.t 25) (.t 27)))), (.mk (some 29) none false (.v (.conv .u64 (.t 28)))), (.mk (some 30) none false (.call (.k (.fn 67 [] [])) [(.t 29)])), (.mk (some 6) none false (.v (.mov (.t 30))))] []) .ret)
def A94_7 : AC := (.seq (.block 0 (.loop A94_1)) A94_5)
def A94_6 : AC := (.seq (.reg [] [(.mk (some 9) none false (.v (.mov (.t 2)))), (.mk (some 10) none false (.v (.bin .shl (.k (.int .i64 (.ofNat 1))) (.t 9)))), (.mk (some 7) none false (.v (.mov (.t 10))))] []) A94_7)
def A94 : AC := (.seq (.reg [.clr [3]] [(.mk (some 3) none false (.box (.t 0))), (.mk (some 6) none false (.v (.mov (.k (.int .i64 (.ofNat 0))))))] []) A94_6)
def an94 : List An := [{ id := 0, pre := [.clr [3]], ep := [], lin := [], sp := [] }]
theorem c94 : cC Try.prog Try.f94.ntmps an94 (Try.f94.body.getD .skip) = some A94 := by kernel_rfl
structure H94 (D : Den) (σ : Sig) (F : Nat) : Prop where
  c122 : ∀ (x0 : (S1 (List Int))) (x1 : Int) r, i_net_around F x0 x1 = some r → D 122 [Enc.enc x0, Enc.enc x1] = some (Enc.enc (r : Int))
  g122 : σ 122 = some (0, false)
  c67 : ∀ (x0 : (Kd .u64)) r, bits_OnesCount F x0 = some r → D 67 [Enc.enc x0] = some (Enc.enc (r : Int))
  g67 : σ 67 = some (0, false)
abbrev R94 (r : Int) : (Nat → V) → Prop := RR Try.prog [.tmp 6] 0 false (Enc.enc (r : Int))
section
variable {D : Den} {σ : Sig} {F : Nat} {r : Int}
def i_net_eliminated_l1 (F : Nat) (set_2 : Int) (x_3 : Int) (w_1 : (S1 (List Int)))  : Nat → Int → Option Int
  | 0, _ => none
  | k + 1, reached_7 =>
    (shlI .i64 1 x_3).bind fun q_10 =>
    (i_net_around F w_1 (iand .i64 reached_7 (ior .i64 set_2 q_10))).bind fun r_11 =>
    bif (r_11 == reached_7) then
      (shlI .i64 1 x_3).bind fun q_12 =>
      (bits_OnesCount F (Kd.mk (IntKind.u64.wrap (iandNot .i64 (iandNot .i64 reached_7 set_2) q_12)) : Kd .u64)).bind fun r_13 =>
      some r_13
    else
      (i_net_eliminated_l1 F set_2 x_3 w_1 k) r_11
theorem t_f94_l1 (H : H94 D σ F) (set_2 : Int) (x_3 : Int) (w_1 : (S1 (List Int)))  : ∀ (k : Nat) (reached_7 : Int) (s : Nat → V), Facts [(1, (.int .i64 set_2)), (2, (.int .i64 x_3)), (3, (.ref (.bx 3) 0 [] (.agg [(Enc.enc (w_1.a : List Int))]))), (6, (.int .i64 0)), (7, (.int .i64 reached_7))] s → i_net_eliminated_l1 F set_2 x_3 w_1 k reached_7 = some r → Run D σ (R94 r) (.run A94_1 [.lp A94_1, .bk 0, .sq A94_5]) s := by
  intro k
  induction k with
  | zero => intro reached_7 s _ h; exact nomatch (h : (none : Option _) = some r)
  | succ k ih =>
    intro reached_7 s hs h
    rw [i_net_eliminated_l1] at h
    obtain ⟨h1, h2, h3, h6, h7⟩ := hs
    refine .block ?_
    refine .seq ?_
    refine run_reg ?_
    refine e_end ?_
    refine g_v1 (t := 3) (u := (.ref (.bx 3) 0 [] (.agg [(Enc.enc (w_1.a : List Int))]))) (.agg [(Enc.enc (w_1.a : List Int))]) h3 rfl rfl ?_
    refine g_v1 (t := 7) (u := (.int .i64 reached_7)) (.int .i64 reached_7) h7 rfl rfl ?_
    refine g_v1 (t := 1) (u := (.int .i64 set_2)) (.int .i64 set_2) h1 rfl rfl ?_
    refine g_v1 (t := 2) (u := (.int .i64 x_3)) (.int .i64 x_3) h2 rfl rfl ?_
    obtain ⟨q_10, E_q_10, h⟩ := bind_some h
    refine g_v (.int .i64 q_10) (ev_shl rfl rfl E_q_10) ?_
    refine g_v2 (t1 := 13) (t2 := 15) (u1 := (.int .i64 set_2)) (u2 := (.int .i64 q_10)) (.int .i64 (ior .i64 set_2 q_10)) rfl rfl rfl rfl ?_
    refine g_v2 (t1 := 12) (t2 := 16) (u1 := (.int .i64 reached_7)) (u2 := (.int .i64 (ior .i64 set_2 q_10))) (.int .i64 (iand .i64 reached_7 (ior .i64 set_2 q_10))) rfl rfl rfl rfl ?_
    obtain ⟨r_11, E_r_11, h⟩ := bind_some h
    refine g_call (m := 0) (al := false) (r := (Enc.enc (r_11 : Int))) [Enc.enc (w_1 : (S1 (List Int))), Enc.enc (iand .i64 reached_7 (ior .i64 set_2 q_10) : Int)] (ta_cons (v := (.agg [(Enc.enc (w_1.a : List Int))])) rfl rfl (Enc.erase_enc (w_1 : (S1 (List Int)))) (ta_cons (v := (.int .i64 (iand .i64 reached_7 (ior .i64 set_2 q_10)))) rfl rfl rfl ta_nil)) (H.c122 _ _ _ E_r_11) H.g122 rfl rfl rfl rfl ?_
    refine g_v1 (t := 18) (u := (.int .i64 r_11)) (.int .i64 r_11) rfl rfl rfl ?_
    refine g_end ?_
    refine e_end ?_
    refine renew [(1, (.int .i64 set_2)), (2, (.int .i64 x_3)), (3, (.ref (.bx 3) 0 [] (.agg [(Enc.enc (w_1.a : List Int))]))), (6, (.int .i64 0)), (7, (.int .i64 reached_7)), (8, (.int .i64 r_11))] ⟨h1, h2, h3, h6, h7, rfl⟩ ?_
    rintro s ⟨h1, h2, h3, h6, h7, h8⟩
    refine .nsq ?_
    refine .seq ?_
    refine .seq ?_
    refine run_reg ?_
    refine e_end ?_
    refine g_v1 (t := 8) (u := (.int .i64 r_11)) (.int .i64 r_11) h8 rfl rfl ?_
    refine g_v1 (t := 7) (u := (.int .i64 reached_7)) (.int .i64 reached_7) h7 rfl rfl ?_
    refine g_v2 (t1 := 19) (t2 := 20) (u1 := (.int .i64 r_11)) (u2 := (.int .i64 reached_7)) (.bool (r_11 == reached_7)) rfl rfl rfl rfl ?_
    refine g_end ?_
    refine e_end ?_
    refine renew [(1, (.int .i64 set_2)), (2, (.int .i64 x_3)), (3, (.ref (.bx 3) 0 [] (.agg [(Enc.enc (w_1.a : List Int))]))), (6, (.int .i64 0)), (7, (.int .i64 reached_7)), (8, (.int .i64 r_11)), (21, (.bool (r_11 == reached_7)))] ⟨h1, h2, h3, h6, h7, h8, rfl⟩ ?_
    rintro s ⟨h1, h2, h3, h6, h7, h8, h21⟩
    refine .nsq ?_
    refine run_cond (t := (r_11 == reached_7)) h21 h (fun h => ?_) (fun h => ?_)
    · refine .exit ?_
      refine .esq ?_
      refine .ebn (by decide) ?_
      refine .elp ?_
      refine .ebk ?_
      refine .nsq ?_
      refine .seq ?_
      refine run_reg ?_
      refine e_end ?_
      refine g_v1 (t := 7) (u := (.int .i64 reached_7)) (.int .i64 reached_7) h7 rfl rfl ?_
      refine g_v1 (t := 1) (u := (.int .i64 set_2)) (.int .i64 set_2) h1 rfl rfl ?_
      refine g_v2 (t1 := 23) (t2 := 24) (u1 := (.int .i64 reached_7)) (u2 := (.int .i64 set_2)) (.int .i64 (iandNot .i64 reached_7 set_2)) rfl rfl rfl rfl ?_
      refine g_v1 (t := 2) (u := (.int .i64 x_3)) (.int .i64 x_3) h2 rfl rfl ?_
      obtain ⟨q_12, E_q_12, h⟩ := bind_some h
      refine g_v (.int .i64 q_12) (ev_shl rfl rfl E_q_12) ?_
      refine g_v2 (t1 := 25) (t2 := 27) (u1 := (.int .i64 (iandNot .i64 reached_7 set_2))) (u2 := (.int .i64 q_12)) (.int .i64 (iandNot .i64 (iandNot .i64 reached_7 set_2) q_12)) rfl rfl rfl rfl ?_
      refine g_v1 (t := 28) (u := (.int .i64 (iandNot .i64 (iandNot .i64 reached_7 set_2) q_12))) (.int .u64 (IntKind.u64.wrap (iandNot .i64 (iandNot .i64 reached_7 set_2) q_12))) rfl rfl rfl ?_
      obtain ⟨r_13, E_r_13, h⟩ := bind_some h
      refine g_call (m := 0) (al := false) (r := (Enc.enc (r_13 : Int))) [Enc.enc ((Kd.mk (IntKind.u64.wrap (iandNot .i64 (iandNot .i64 reached_7 set_2) q_12)) : Kd .u64) : (Kd .u64))] (ta_cons (v := (.int .u64 (IntKind.u64.wrap (iandNot .i64 (iandNot .i64 reached_7 set_2) q_12)))) rfl rfl rfl ta_nil) (H.c67 _ _ E_r_13) H.g67 rfl rfl rfl rfl ?_
      refine g_v1 (t := 30) (u := (.int .i64 r_13)) (.int .i64 r_13) rfl rfl rfl ?_
      refine g_end ?_
      refine e_end ?_
      refine renew [(6, (.int .i64 r_13))] rfl ?_
      rintro s h6
      refine .nsq ?_
      refine .ret ?_
      have hr := Option.some.inj h
      subst hr
      exact rrA (res_tmp h6) rfl
    · refine .skip ?_
      refine .nsq ?_
      refine run_reg ?_
      refine e_end ?_
      refine g_v1 (t := 8) (u := (.int .i64 r_11)) (.int .i64 r_11) h8 rfl rfl ?_
      refine g_v1 (t := 22) (u := (.int .i64 r_11)) (.int .i64 r_11) rfl rfl rfl ?_
      refine g_end ?_
      refine e_end ?_
      refine renew [(1, (.int .i64 set_2)), (2, (.int .i64 x_3)), (3, (.ref (.bx 3) 0 [] (.agg [(Enc.enc (w_1.a : List Int))]))), (6, (.int .i64 0)), (7, (.int .i64 r_11))] ⟨h1, h2, h3, h6, rfl⟩ ?_
      rintro s ⟨h1, h2, h3, h6, h7⟩
      refine .nbk ?_
      refine .nlp ?_
      exact ih r_11 _ ⟨h1, h2, h3, h6, h7⟩ h
def i_net_eliminated (F : Nat) (w_1 : (S1 (List Int))) (set_2 : Int) (x_3 : Int) : Option Int :=
  (shlI .i64 1 x_3).bind fun q_4 =>
  i_net_eliminated_l1 F set_2 x_3 w_1 F q_4
theorem t94 (H : H94 D σ F) (w_1 : (S1 (List Int))) (set_2 : Int) (x_3 : Int) (s : Nat → V) (hs : Facts [(0, (.agg [(Enc.enc (w_1.a : List Int))])), (1, (.int .i64 set_2)), (2, (.int .i64 x_3))] s) (h : i_net_eliminated F w_1 set_2 x_3 = some r) : Run D σ (R94 r) (.run A94 []) s := by
  unfold i_net_eliminated at h
  obtain ⟨h0, h1, h2⟩ := hs
  refine .seq ?_
  refine run_reg ?_
  refine e_clr ?_
  refine e_end ?_
  refine g_box (.agg [(Enc.enc (w_1.a : List Int))]) (rd_of (keep_clear (s := s) (pk := [3]) h0 rfl (map_agg (maps_cons (Enc.map_enc _ (w_1.a : List Int)) maps_nil))) rfl) (gone_clear (s := s) (pk := [3]) (t := 3) rfl) rfl ?_
  refine g_v0 (.int .i64 0) rfl rfl ?_
  refine g_end ?_
  refine e_end ?_
  refine renew [(1, (.int .i64 set_2)), (2, (.int .i64 x_3)), (3, (.ref (.bx 3) 0 [] (.agg [(Enc.enc (w_1.a : List Int))]))), (6, (.int .i64 0))] ⟨(keep_clear (s := s) (pk := [3]) h1 rfl rfl), (keep_clear (s := s) (pk := [3]) h2 rfl rfl), rfl, rfl⟩ ?_
  rintro s ⟨h1, h2, h3, h6⟩
  refine .nsq ?_
  refine .seq ?_
  refine run_reg ?_
  refine e_end ?_
  refine g_v1 (t := 2) (u := (.int .i64 x_3)) (.int .i64 x_3) h2 rfl rfl ?_
  obtain ⟨q_4, E_q_4, h⟩ := bind_some h
  refine g_v (.int .i64 q_4) (ev_shl rfl rfl E_q_4) ?_
  refine g_v1 (t := 10) (u := (.int .i64 q_4)) (.int .i64 q_4) rfl rfl rfl ?_
  refine g_end ?_
  refine e_end ?_
  refine renew [(1, (.int .i64 set_2)), (2, (.int .i64 x_3)), (3, (.ref (.bx 3) 0 [] (.agg [(Enc.enc (w_1.a : List Int))]))), (6, (.int .i64 0)), (7, (.int .i64 q_4))] ⟨h1, h2, h3, h6, rfl⟩ ?_
  rintro s ⟨h1, h2, h3, h6, h7⟩
  refine .nsq ?_
  refine .seq ?_
  refine .block ?_
  refine .loop ?_
  exact t_f94_l1 H set_2 x_3 w_1 F q_4 _ ⟨h1, h2, h3, h6, h7⟩ h
end
def e94 (F : Nat) : Ent := ⟨94, da (fun (x : ((S1 (List Int)) × Int × Int × Unit)) => i_net_eliminated F x.1 x.2.1 x.2.2.1) (fun (r : Int) => (Enc.enc (r : Int))), 0, false, selF []⟩
theorem p94 {F : Nat} {x0 : (S1 (List Int))} {x1 : Int} {x2 : Int} {r : Int} (h : i_net_eliminated F x0 x1 x2 = some r) : (e94 F).den [Enc.enc x0, Enc.enc x1, Enc.enc x2] = some (Enc.enc (r : Int)) := da_put (f := fun (x : ((S1 (List Int)) × Int × Int × Unit)) => i_net_eliminated F x.1 x.2.1 x.2.2.1) (t := fun (r : Int) => (Enc.enc (r : Int))) (x0, x1, x2, ()) h
theorem o94 {D : Den} {σ : Sig} {F : Nat} (hF : Fits2 Try.prog D σ) (H : H94 D σ F) : (e94 F).Ok Try.prog := by
  refine ok_of (f := 94) (show unk 94 = 94 from rfl) (fun args r h => ?_) ⟨Try.f94, Try.func94, rfl, rfl⟩
  obtain ⟨⟨x0, x1, x2, _⟩, y, rfl, hy, rfl⟩ := da_open h
  exact contract_run hF (by kernel_rfl) Try.func94 rfl c94 (show 3 ≤ Try.f94.ntmps by decide) (t94 H x0 x1 x2 _ ⟨rfl, rfl, rfl⟩ hy)
/- (loop.example/g01109/impl.net).bestOrders -/
def A87s1_2 : AC := (.cond (.t 19) .skip (.exit 0))
def A87s1_11 : AC := (.cond (.t 58) (.reg [] [(.mk (some 59) none false (.v (.mov (.t 7)))), (.mk (some 60) none false (.v (.mov (.t 8)))), (.mk (some 61) none false (.v (.mov (.t 11)))), (.mk (some 62) none false (.v (.idx (.t 59) (.t 60) 1))), (.mk none none false (.store .s (.t 62) (.t 61)))] []) .skip)
def A87s1_10 : AC := (.seq (.reg [] [(.mk (some 49) none false (.v (.mov (.t 9)))), (.mk (some 50) none false (.v (.bin .eql (.t 49) (.k (.int .i64 (.ofNat 0)))))), (.mk (some 51) none false (.v (.mov (.t 50)))), (.mk (some 52) (some (51, false)) false (.v (.mov (.t 11)))), (.mk (some 53) (some (51, false)) false (.v (.mov (.t 7)))), (.mk (some 54) (some (51, false)) false (.v (.mov (.t 8)))), (.mk (some 55) (some (51, false)) false (.v (.idx (.t 53) (.t 54) 1))), (.mk (some 56) (some (51, false)) false (.v (.load .s (.t 55)))), (.mk (some 57) (some (51, false)) false (.v (.bin .lss (.t 52) (.t 56)))), (.mk (some 58) none false (.v (.pick (.t 51) (.k (.bool true)) (.t 57))))] []) A87s1_11)
def A87s1_9 : AC := (.seq (.reg [] [(.mk (some 37) none false (.v (.mov (.t 2)))), (.mk (some 38) none false (.v (.mov (.t 8)))), (.mk (some 39) none false (.v (.mov (.t 10)))), (.mk (some 40) none false (.call (.t 37) [(.t 38), (.t 39)])), (.mk (some 41) none false (.v (.mov (.t 7)))), (.mk (some 42) none false (.v (.mov (.t 8)))), (.mk (some 43) none false (.v (.mov (.t 10)))), (.mk (some 44) none false (.v (.bin .shl (.k (.int .i64 (.ofNat 1))) (.t 43)))), (.mk (some 45) none false (.v (.bin .or (.t 42) (.t 44)))), (.mk (some 46) none false (.v (.idx (.t 41) (.t 45) 1))), (.mk (some 47) none false (.v (.load .s (.t 46)))), (.mk (some 48) none false (.v (.mx [(.t 40), (.t 47)]))), (.mk (some 11) none false (.v (.mov (.t 48))))] []) A87s1_10)
def A87s1_12 : AC := (.reg [] [(.mk (some 63) none false (.v (.bin .add (.t 32) (.k (.int .i64 (.ofNat 1)))))), (.mk (some 32) none false (.v (.mov (.t 63))))] [])
def A87s1_8 : AC := (.seq (.block 3 (.seq (.reg [] [(.mk (some 34) none false (.v (.mov (.t 32)))), (.mk (some 35) none false (.v (.idx (.t 30) (.t 32) 1))), (.mk (some 36) none false (.v (.load .s (.t 35)))), (.mk (some 9) none false (.v (.mov (.t 34)))), (.mk (some 10) none false (.v (.mov (.t 36))))] []) A87s1_9)) A87s1_12)
def A87s1_7 : AC := (.seq (.cond (.t 33) .skip (.exit 2)) A87s1_8)
def A87s1_6 : AC := (.seq (.reg [] [(.mk (some 33) none false (.v (.bin .lss (.t 32) (.t 31))))] []) A87s1_7)
def A87s1_5 : AC := (.block 2 (.loop A87s1_6))
def A87s1_4 : AC := (.seq (.reg [] [(.mk (some 26) none false (.v (.load (.ag [.p]) (.t 3)))), (.mk (some 27) none false (.call (.k (.fn 59 [] [])) [(.t 26)])), (.mk (some 28) none false (.v (.mov (.t 8)))), (.mk (some 29) none false (.v (.bin .andNot (.t 27) (.t 28)))), (.mk (some 30) none false (.call (.k (.fn 60 [] [])) [(.t 29)])), (.mk (some 31) none false (.v (.len (.t 30)))), (.mk (some 32) none false (.v (.mov (.k (.int .i64 (.ofNat 0))))))] []) A87s1_5)
def A87s1_13 : AC := (.reg [] [(.mk (some 20) none false (.v (.mov (.t 8)))), (.mk (some 21) none false (.v (.bin .sub (.t 20) (.k (.int .i64 (.ofNat 1)))))), (.mk (some 8) none false (.v (.mov (.t 21))))] [])
def A87s1_3 : AC := (.seq (.block 1 (.seq (.reg [] [(.mk (some 22) none false (.v (.mov (.t 7)))), (.mk (some 23) none false (.v (.mov (.t 8)))), (.mk (some 24) none false (.v (.mov (.t 1)))), (.mk (some 25) none false (.v (.idx (.t 22) (.t 23) 1))), (.mk none none false (.store .s (.t 25) (.t 24)))] []) A87s1_4)) A87s1_13)
def A87s1_1 : AC := (.seq (.seq (.reg [] [(.mk (some 18) none false (.v (.mov (.t 8)))), (.mk (some 19) none false (.v (.bin .geq (.t 18) (.k (.int .i64 (.ofNat 0))))))] []) A87s1_2) A87s1_3)
def A87s1_14 : AC := (.seq (.reg [] [(.mk (some 64) none false (.v (.mov (.t 7)))), (.mk (some 6) none false (.v (.mov (.t 64))))] [.home 7 6]) .ret)
def A87s1_17 : AC := (.block 0 (.loop A87s1_1))
def A87s1_16 : AC := (.seq (.seq (.reg [] [(.mk (some 16) none false (.v (.load (.ag [.p]) (.t 3)))), (.mk (some 17) none false (.call (.k (.fn 59 [] [])) [(.t 16)])), (.mk (some 8) none false (.v (.mov (.t 17))))] []) A87s1_17) A87s1_14)
def A87s1_15 : AC := (.seq (.reg [.clr [15]] [(.mk (some 12) none false (.v (.load (.ag [.p]) (.t 3)))), (.mk (some 13) none false (.call (.k (.fn 59 [] [])) [(.t 12)])), (.mk (some 14) none false (.v (.bin .add (.t 13) (.k (.int .i64 (.ofNat 1)))))), (.mk (some 15) none false (.mk (.t 14) (.int .i64 (.ofNat 0)))), (.mk (some 7) none false (.v (.mov (.t 15))))] [.home 15 7]) A87s1_16)
def A87s1 : AC := (.seq (.reg [.clr [3]] [(.mk (some 3) none false (.box (.t 0))), (.mk (some 6) none false (.v (.mov (.k (.sl .nl .s 0 [])))))] []) A87s1_15)
def an87s1 : List An := [{ id := 0, pre := [.clr [3]], ep := [], lin := [], sp := [] }, { id := 1, pre := [.clr [15]], ep := [.home 15 7], lin := [], sp := [] }, { id := 13, pre := [], ep := [.home 7 6], lin := [], sp := [] }]
theorem c87s1 : cC Try.prog Try.f87.ntmps an87s1 (Try.f87.body.getD .skip) = some A87s1 := by kernel_rfl
structure H87s1 (D : Den) (σ : Sig) (F : Nat) : Prop where
  c59 : ∀ (x0 : (S1 (List Int))) r, i_net_all F x0 = some r → D 59 [Enc.enc x0] = some (Enc.enc (r : Int))
  g59 : σ 59 = some (0, false)
  c60 : ∀ (x0 : Int) r, i_setOf F x0 = some r → D 60 [Enc.enc x0] = some (Enc.enc (r : (List Int)))
  g60 : σ 60 = some (0, false)
  c94 : ∀ (x0 : (S1 (List Int))) (x1 : Int) (x2 : Int) r, i_net_eliminated F x0 x1 x2 = some r → D 94 [Enc.enc x0, Enc.enc x1, Enc.enc x2] = some (Enc.enc (r : Int))
  g94 : σ 94 = some (0, false)
abbrev R87s1 (r : (List Int)) : (Nat → V) → Prop := RR Try.prog [.tmp 6] 0 false (Enc.enc (r : (List Int)))
section
variable {D : Den} {σ : Sig} {F : Nat} {r : (List Int)}
def i_net_bestOrders_of_i_net_eliminated_j1 (F : Nat) (none_2 : Int) (cost_3 : (Cl 94 ((S1 (List Int)) × Unit) Unit)) (w_1 : (S1 (List Int))) (set_43 : Int) (r_81 : (List Int)) (t32_93 : Int) (c1 : (List Int) → Int → Option (List Int)) (c4 : (List Int) → Int → Option (List Int)) (best_111 : (List Int)) : Option (List Int) :=
  c4 best_111 (w64 (t32_93 + 1))
theorem t_f87s1_j1 (H : H87s1 D σ F) (none_2 : Int) (cost_3 : (Cl 94 ((S1 (List Int)) × Unit) Unit)) (w_1 : (S1 (List Int))) (set_43 : Int) (r_81 : (List Int)) (t32_93 : Int) (c1 : (List Int) → Int → Option (List Int)) (Hc1 : ∀ (best_42 : (List Int)) (set_43 : Int) (s : Nat → V), Facts [(1, (.int .i64 none_2)), (2, (.fn 94 [(.agg [(Enc.enc (cost_3.fs.1.a : List Int))])] [])), (3, (.ref (.bx 3) 0 [] (.agg [(Enc.enc (w_1.a : List Int))]))), (6, (.sl .nl (Enc.shp Int) 0 [])), (7, (encO (.at 7 []) (.of (best_42 : List Int)))), (8, (.int .i64 set_43))] s → c1 best_42 set_43 = some r → Run D σ (R87s1 r) (.run A87s1_1 [.lp A87s1_1, .bk 0, .sq A87s1_14]) s) (c4 : (List Int) → Int → Option (List Int)) (Hc4 : ∀ (best_92 : (List Int)) (t32_93 : Int) (s : Nat → V), Facts [(1, (.int .i64 none_2)), (2, (.fn 94 [(.agg [(Enc.enc (cost_3.fs.1.a : List Int))])] [])), (3, (.ref (.bx 3) 0 [] (.agg [(Enc.enc (w_1.a : List Int))]))), (6, (.sl .nl (Enc.shp Int) 0 [])), (7, (encO (.at 7 []) (.of (best_92 : List Int)))), (8, (.int .i64 set_43)), (30, (Enc.enc (r_81 : List Int))), (31, (.int .i64 (r_81.length : Int))), (32, (.int .i64 t32_93))] s → c4 best_92 t32_93 = some r → Run D σ (R87s1 r) (.run A87s1_6 [.lp A87s1_6, .bk 2, .bk 1, .sq A87s1_13, .lp A87s1_1, .bk 0, .sq A87s1_14]) s) (best_111 : (List Int)) (s : Nat → V) (hs : Facts [(1, (.int .i64 none_2)), (2, (.fn 94 [(.agg [(Enc.enc (cost_3.fs.1.a : List Int))])] [])), (3, (.ref (.bx 3) 0 [] (.agg [(Enc.enc (w_1.a : List Int))]))), (6, (.sl .nl (Enc.shp Int) 0 [])), (7, (encO (.at 7 []) (.of (best_111 : List Int)))), (8, (.int .i64 set_43)), (30, (Enc.enc (r_81 : List Int))), (31, (.int .i64 (r_81.length : Int))), (32, (.int .i64 t32_93))] s) (h : i_net_bestOrders_of_i_net_eliminated_j1 F none_2 cost_3 w_1 set_43 r_81 t32_93 c1 c4 best_111 = some r) : Run D σ (R87s1 r) (.nrm [.bk 3, .sq A87s1_12, .lp A87s1_6, .bk 2, .bk 1, .sq A87s1_13, .lp A87s1_1, .bk 0, .sq A87s1_14]) s := by
  unfold i_net_bestOrders_of_i_net_eliminated_j1 at h
  obtain ⟨h1, h2, h3, h6, h7, h8, h30, h31, h32⟩ := hs
  refine .nbk ?_
  refine .nsq ?_
  refine run_reg ?_
  refine e_end ?_
  refine g_v1 (t := 32) (u := (.int .i64 t32_93)) (.int .i64 (w64 (t32_93 + 1))) h32 rfl rfl ?_
  refine g_v1 (t := 63) (u := (.int .i64 (w64 (t32_93 + 1)))) (.int .i64 (w64 (t32_93 + 1))) rfl rfl rfl ?_
  refine g_end ?_
  refine e_end ?_
  refine renew [(1, (.int .i64 none_2)), (2, (.fn 94 [(.agg [(Enc.enc (cost_3.fs.1.a : List Int))])] [])), (3, (.ref (.bx 3) 0 [] (.agg [(Enc.enc (w_1.a : List Int))]))), (6, (.sl .nl (Enc.shp Int) 0 [])), (7, (encO (.at 7 []) (.of (best_111 : List Int)))), (8, (.int .i64 set_43)), (30, (Enc.enc (r_81 : List Int))), (31, (.int .i64 (r_81.length : Int))), (32, (.int .i64 (w64 (t32_93 + 1))))] ⟨h1, h2, h3, h6, h7, h8, h30, h31, rfl⟩ ?_
  rintro s ⟨h1, h2, h3, h6, h7, h8, h30, h31, h32⟩
  refine .nlp ?_
  exact Hc4 best_111 (w64 (t32_93 + 1)) _ ⟨h1, h2, h3, h6, h7, h8, h30, h31, h32⟩ h
def i_net_bestOrders_of_i_net_eliminated_j2 (F : Nat) (none_2 : Int) (cost_3 : (Cl 94 ((S1 (List Int)) × Unit) Unit)) (w_1 : (S1 (List Int))) (best_92 : (List Int)) (set_43 : Int) (e_107 : Int) (r_105 : Int) (r_81 : (List Int)) (t32_93 : Int) (c1 : (List Int) → Int → Option (List Int)) (c4 : (List Int) → Int → Option (List Int)) (t58_109 : Bool) : Option (List Int) :=
  bif t58_109 then
    (idx best_92 set_43).bind fun e_112 =>
    i_net_bestOrders_of_i_net_eliminated_j1 F none_2 cost_3 w_1 set_43 r_81 t32_93 c1 c4 (best_92.set set_43.toNat (if e_107 > r_105 then e_107 else r_105))
  else
    i_net_bestOrders_of_i_net_eliminated_j1 F none_2 cost_3 w_1 set_43 r_81 t32_93 c1 c4 best_92
theorem t_f87s1_j2 (H : H87s1 D σ F) (none_2 : Int) (cost_3 : (Cl 94 ((S1 (List Int)) × Unit) Unit)) (w_1 : (S1 (List Int))) (best_92 : (List Int)) (set_43 : Int) (e_107 : Int) (r_105 : Int) (r_81 : (List Int)) (t32_93 : Int) (c1 : (List Int) → Int → Option (List Int)) (Hc1 : ∀ (best_42 : (List Int)) (set_43 : Int) (s : Nat → V), Facts [(1, (.int .i64 none_2)), (2, (.fn 94 [(.agg [(Enc.enc (cost_3.fs.1.a : List Int))])] [])), (3, (.ref (.bx 3) 0 [] (.agg [(Enc.enc (w_1.a : List Int))]))), (6, (.sl .nl (Enc.shp Int) 0 [])), (7, (encO (.at 7 []) (.of (best_42 : List Int)))), (8, (.int .i64 set_43))] s → c1 best_42 set_43 = some r → Run D σ (R87s1 r) (.run A87s1_1 [.lp A87s1_1, .bk 0, .sq A87s1_14]) s) (c4 : (List Int) → Int → Option (List Int)) (Hc4 : ∀ (best_92 : (List Int)) (t32_93 : Int) (s : Nat → V), Facts [(1, (.int .i64 none_2)), (2, (.fn 94 [(.agg [(Enc.enc (cost_3.fs.1.a : List Int))])] [])), (3, (.ref (.bx 3) 0 [] (.agg [(Enc.enc (w_1.a : List Int))]))), (6, (.sl .nl (Enc.shp Int) 0 [])), (7, (encO (.at 7 []) (.of (best_92 : List Int)))), (8, (.int .i64 set_43)), (30, (Enc.enc (r_81 : List Int))), (31, (.int .i64 (r_81.length : Int))), (32, (.int .i64 t32_93))] s → c4 best_92 t32_93 = some r → Run D σ (R87s1 r) (.run A87s1_6 [.lp A87s1_6, .bk 2, .bk 1, .sq A87s1_13, .lp A87s1_1, .bk 0, .sq A87s1_14]) s) (t58_109 : Bool) (s : Nat → V) (hs : Facts [(1, (.int .i64 none_2)), (2, (.fn 94 [(.agg [(Enc.enc (cost_3.fs.1.a : List Int))])] [])), (3, (.ref (.bx 3) 0 [] (.agg [(Enc.enc (w_1.a : List Int))]))), (6, (.sl .nl (Enc.shp Int) 0 [])), (7, (encO (.at 7 []) (.of (best_92 : List Int)))), (8, (.int .i64 set_43)), (11, (.int .i64 (if e_107 > r_105 then e_107 else r_105))), (30, (Enc.enc (r_81 : List Int))), (31, (.int .i64 (r_81.length : Int))), (32, (.int .i64 t32_93)), (58, (.bool t58_109))] s) (h : i_net_bestOrders_of_i_net_eliminated_j2 F none_2 cost_3 w_1 best_92 set_43 e_107 r_105 r_81 t32_93 c1 c4 t58_109 = some r) : Run D σ (R87s1 r) (.nrm [.sq A87s1_11, .bk 3, .sq A87s1_12, .lp A87s1_6, .bk 2, .bk 1, .sq A87s1_13, .lp A87s1_1, .bk 0, .sq A87s1_14]) s := by
  unfold i_net_bestOrders_of_i_net_eliminated_j2 at h
  obtain ⟨h1, h2, h3, h6, h7, h8, h11, h30, h31, h32, h58⟩ := hs
  refine .nsq ?_
  refine run_cond (t := t58_109) h58 h (fun h => ?_) (fun h => ?_)
  · refine run_reg ?_
    refine e_end ?_
    refine g_v1 (t := 7) (u := (encO (.at 7 []) (.of (best_92 : List Int)))) (encO (.at 7 []) (.of (best_92 : List Int))) h7 rfl rfl ?_
    refine g_v1 (t := 8) (u := (.int .i64 set_43)) (.int .i64 set_43) h8 rfl rfl ?_
    refine g_v1 (t := 11) (u := (.int .i64 (if e_107 > r_105 then e_107 else r_105))) (.int .i64 (if e_107 > r_105 then e_107 else r_105)) h11 rfl rfl ?_
    obtain ⟨e_112, E_e_112, h⟩ := bind_some h
    refine g_v (.ref (.at 7 []) set_43.toNat [] (.int .i64 e_112)) (ev_idxO (o := (.of best_92)) rfl rfl E_e_112 rfl) ?_
    refine g_store (.int .i64 (if e_107 > r_105 then e_107 else r_105)) (rd_of rfl rfl) (rd_of rfl rfl) (by refine ⟨by decide, by decide, rfl, rfl, rfl, ?_⟩; first | rfl | simp [V.toks, V.tokss, Enc.toks_enc]) ?_
    refine g_end ?_
    refine e_end ?_
    refine renew [(1, (.int .i64 none_2)), (2, (.fn 94 [(.agg [(Enc.enc (cost_3.fs.1.a : List Int))])] [])), (3, (.ref (.bx 3) 0 [] (.agg [(Enc.enc (w_1.a : List Int))]))), (6, (.sl .nl (Enc.shp Int) 0 [])), (7, (encO (.at 7 []) (.of (best_92.set set_43.toNat (if e_107 > r_105 then e_107 else r_105) : List Int)))), (8, (.int .i64 set_43)), (30, (Enc.enc (r_81 : List Int))), (31, (.int .i64 (r_81.length : Int))), (32, (.int .i64 t32_93))] ⟨(keep_mut h1 rfl), (keep_mut h2 (mut_fn (muts_cons (mut_agg (muts_cons (Enc.mut_enc _ _ _ _ (cost_3.fs.1.a : List Int)) rfl)) rfl) rfl)), (keep_mut h3 (mut_ref_ne rfl rfl (mut_agg (muts_cons (Enc.mut_enc _ _ _ _ (w_1.a : List Int)) rfl)))), (keep_mut h6 rfl), (keep_mut h7 mut_own), (keep_mut h8 rfl), (keep_mut h30 (Enc.mut_enc _ _ _ _ (r_81 : List Int))), (keep_mut h31 rfl), (keep_mut h32 rfl)⟩ ?_
    rintro s ⟨h1, h2, h3, h6, h7, h8, h30, h31, h32⟩
    exact t_f87s1_j1 H none_2 cost_3 w_1 set_43 r_81 t32_93 c1 Hc1 c4 Hc4 (best_92.set set_43.toNat (if e_107 > r_105 then e_107 else r_105)) _ ⟨h1, h2, h3, h6, h7, h8, h30, h31, h32⟩ h
  · refine .skip ?_
    exact t_f87s1_j1 H none_2 cost_3 w_1 set_43 r_81 t32_93 c1 Hc1 c4 Hc4 best_92 _ ⟨h1, h2, h3, h6, h7, h8, h30, h31, h32⟩ h
def i_net_bestOrders_of_i_net_eliminated_l1 (F : Nat) (none_2 : Int) (cost_3 : (Cl 94 ((S1 (List Int)) × Unit) Unit)) (w_1 : (S1 (List Int))) (set_43 : Int) (r_81 : (List Int)) (c1 : (List Int) → Int → Option (List Int)) : Nat → (List Int) → Int → Option (List Int)
  | 0, _, _ => none
  | k + 1, best_92, t32_93 =>
    bif decide (t32_93 < (r_81.length : Int)) then
      (idx r_81 t32_93).bind fun e_104 =>
      (i_net_eliminated F cost_3.fs.1 set_43 e_104).bind fun r_105 =>
      (shlI .i64 1 e_104).bind fun q_106 =>
      (idx best_92 (ior .i64 set_43 q_106)).bind fun e_107 =>
      bif (t32_93 == 0) then
        i_net_bestOrders_of_i_net_eliminated_j2 F none_2 cost_3 w_1 best_92 set_43 e_107 r_105 r_81 t32_93 c1 (i_net_bestOrders_of_i_net_eliminated_l1 F none_2 cost_3 w_1 set_43 r_81 c1 k) true
      else
        (idx best_92 set_43).bind fun e_113 =>
        i_net_bestOrders_of_i_net_eliminated_j2 F none_2 cost_3 w_1 best_92 set_43 e_107 r_105 r_81 t32_93 c1 (i_net_bestOrders_of_i_net_eliminated_l1 F none_2 cost_3 w_1 set_43 r_81 c1 k) (decide ((if e_107 > r_105 then e_107 else r_105) < e_113))
    else
      c1 best_92 (w64 (set_43 - 1))
theorem t_f87s1_l1 (H : H87s1 D σ F) (none_2 : Int) (cost_3 : (Cl 94 ((S1 (List Int)) × Unit) Unit)) (w_1 : (S1 (List Int))) (set_43 : Int) (r_81 : (List Int)) (c1 : (List Int) → Int → Option (List Int)) (Hc1 : ∀ (best_42 : (List Int)) (set_43 : Int) (s : Nat → V), Facts [(1, (.int .i64 none_2)), (2, (.fn 94 [(.agg [(Enc.enc (cost_3.fs.1.a : List Int))])] [])), (3, (.ref (.bx 3) 0 [] (.agg [(Enc.enc (w_1.a : List Int))]))), (6, (.sl .nl (Enc.shp Int) 0 [])), (7, (encO (.at 7 []) (.of (best_42 : List Int)))), (8, (.int .i64 set_43))] s → c1 best_42 set_43 = some r → Run D σ (R87s1 r) (.run A87s1_1 [.lp A87s1_1, .bk 0, .sq A87s1_14]) s) : ∀ (k : Nat) (best_92 : (List Int)) (t32_93 : Int) (s : Nat → V), Facts [(1, (.int .i64 none_2)), (2, (.fn 94 [(.agg [(Enc.enc (cost_3.fs.1.a : List Int))])] [])), (3, (.ref (.bx 3) 0 [] (.agg [(Enc.enc (w_1.a : List Int))]))), (6, (.sl .nl (Enc.shp Int) 0 [])), (7, (encO (.at 7 []) (.of (best_92 : List Int)))), (8, (.int .i64 set_43)), (30, (Enc.enc (r_81 : List Int))), (31, (.int .i64 (r_81.length : Int))), (32, (.int .i64 t32_93))] s → i_net_bestOrders_of_i_net_eliminated_l1 F none_2 cost_3 w_1 set_43 r_81 c1 k best_92 t32_93 = some r → Run D σ (R87s1 r) (.run A87s1_6 [.lp A87s1_6, .bk 2, .bk 1, .sq A87s1_13, .lp A87s1_1, .bk 0, .sq A87s1_14]) s := by
  intro k
  induction k with
  | zero => intro best_92 t32_93 s _ h; exact nomatch (h : (none : Option _) = some r)
  | succ k ih =>
    intro best_92 t32_93 s hs h
    rw [i_net_bestOrders_of_i_net_eliminated_l1] at h
    obtain ⟨h1, h2, h3, h6, h7, h8, h30, h31, h32⟩ := hs
    refine .seq ?_
    refine run_reg ?_
    refine e_end ?_
    refine g_v2 (t1 := 32) (t2 := 31) (u1 := (.int .i64 t32_93)) (u2 := (.int .i64 (r_81.length : Int))) (.bool (decide (t32_93 < (r_81.length : Int)))) h32 h31 rfl rfl ?_
    refine g_end ?_
    refine e_end ?_
    refine renew [(1, (.int .i64 none_2)), (2, (.fn 94 [(.agg [(Enc.enc (cost_3.fs.1.a : List Int))])] [])), (3, (.ref (.bx 3) 0 [] (.agg [(Enc.enc (w_1.a : List Int))]))), (6, (.sl .nl (Enc.shp Int) 0 [])), (7, (encO (.at 7 []) (.of (best_92 : List Int)))), (8, (.int .i64 set_43)), (30, (Enc.enc (r_81 : List Int))), (31, (.int .i64 (r_81.length : Int))), (32, (.int .i64 t32_93)), (33, (.bool (decide (t32_93 < (r_81.length : Int)))))] ⟨h1, h2, h3, h6, h7, h8, h30, h31, h32, rfl⟩ ?_
    rintro s ⟨h1, h2, h3, h6, h7, h8, h30, h31, h32, h33⟩
    refine .nsq ?_
    refine .seq ?_
    refine run_cond (t := decide (t32_93 < (r_81.length : Int))) h33 h (fun h => ?_) (fun h => ?_)
    · refine .skip ?_
      refine .nsq ?_
      refine .seq ?_
      refine .block ?_
      refine .seq ?_
      refine run_reg ?_
      refine e_end ?_
      refine g_v1 (t := 32) (u := (.int .i64 t32_93)) (.int .i64 t32_93) h32 rfl rfl ?_
      obtain ⟨e_104, E_e_104, h⟩ := bind_some h
      refine g_v (.ref .sh 0 [] (.int .i64 e_104)) (ev_idx (t := .sh) (lo := 0) (xs := r_81) h30 h32 E_e_104 rfl rfl) ?_
      refine g_v1 (t := 35) (u := (.ref .sh 0 [] (.int .i64 e_104))) (.int .i64 e_104) rfl rfl rfl ?_
      refine g_v1 (t := 34) (u := (.int .i64 t32_93)) (.int .i64 t32_93) rfl rfl rfl ?_
      refine g_v1 (t := 36) (u := (.int .i64 e_104)) (.int .i64 e_104) rfl rfl rfl ?_
      refine g_end ?_
      refine e_end ?_
      refine renew [(1, (.int .i64 none_2)), (2, (.fn 94 [(.agg [(Enc.enc (cost_3.fs.1.a : List Int))])] [])), (3, (.ref (.bx 3) 0 [] (.agg [(Enc.enc (w_1.a : List Int))]))), (6, (.sl .nl (Enc.shp Int) 0 [])), (7, (encO (.at 7 []) (.of (best_92 : List Int)))), (8, (.int .i64 set_43)), (9, (.int .i64 t32_93)), (10, (.int .i64 e_104)), (30, (Enc.enc (r_81 : List Int))), (31, (.int .i64 (r_81.length : Int))), (32, (.int .i64 t32_93))] ⟨h1, h2, h3, h6, h7, h8, rfl, rfl, h30, h31, h32⟩ ?_
      rintro s ⟨h1, h2, h3, h6, h7, h8, h9, h10, h30, h31, h32⟩
      refine .nsq ?_
      refine .seq ?_
      refine run_reg ?_
      refine e_end ?_
      refine g_v1 (t := 2) (u := (.fn 94 [(.agg [(Enc.enc (cost_3.fs.1.a : List Int))])] [])) (.fn 94 [(.agg [(Enc.enc (cost_3.fs.1.a : List Int))])] []) h2 rfl rfl ?_
      refine g_v1 (t := 8) (u := (.int .i64 set_43)) (.int .i64 set_43) h8 rfl rfl ?_
      refine g_v1 (t := 10) (u := (.int .i64 e_104)) (.int .i64 e_104) h10 rfl rfl ?_
      obtain ⟨r_105, E_r_105, h⟩ := bind_some h
      refine g_callF (m := 0) (al := false) (r := (Enc.enc (r_105 : Int))) (fs := [(.agg [(Enc.enc (cost_3.fs.1.a : List Int))])]) (env := []) (us := [Enc.enc (cost_3.fs.1 : (S1 (List Int)))]) (ws := []) rfl (erases_cons (Enc.erase_enc (cost_3.fs.1 : (S1 (List Int)))) erases_nil) erases_nil rfl [Enc.enc (set_43 : Int), Enc.enc (e_104 : Int)] (ta_cons (v := (.int .i64 set_43)) rfl rfl rfl (ta_cons (v := (.int .i64 e_104)) rfl rfl rfl ta_nil)) (H.c94 _ _ _ _ E_r_105) H.g94 rfl rfl rfl rfl ?_
      refine g_v1 (t := 7) (u := (encO (.at 7 []) (.of (best_92 : List Int)))) (encO (.at 7 []) (.of (best_92 : List Int))) h7 rfl rfl ?_
      refine g_v1 (t := 8) (u := (.int .i64 set_43)) (.int .i64 set_43) h8 rfl rfl ?_
      refine g_v1 (t := 10) (u := (.int .i64 e_104)) (.int .i64 e_104) h10 rfl rfl ?_
      obtain ⟨q_106, E_q_106, h⟩ := bind_some h
      refine g_v (.int .i64 q_106) (ev_shl rfl rfl E_q_106) ?_
      refine g_v2 (t1 := 42) (t2 := 44) (u1 := (.int .i64 set_43)) (u2 := (.int .i64 q_106)) (.int .i64 (ior .i64 set_43 q_106)) rfl rfl rfl rfl ?_
      obtain ⟨e_107, E_e_107, h⟩ := bind_some h
      refine g_v (.ref (.at 7 []) ((ior .i64 set_43 q_106).toNat) [] (.int .i64 e_107)) (ev_idxO (o := (.of best_92)) rfl rfl E_e_107 rfl) ?_
      refine g_v1 (t := 46) (u := (.ref (.at 7 []) ((ior .i64 set_43 q_106).toNat) [] (.int .i64 e_107))) (.int .i64 e_107) rfl rfl rfl ?_
      refine g_v2 (t1 := 40) (t2 := 47) (u1 := (.int .i64 r_105)) (u2 := (.int .i64 e_107)) (.int .i64 (if e_107 > r_105 then e_107 else r_105)) rfl rfl rfl rfl ?_
      refine g_v1 (t := 48) (u := (.int .i64 (if e_107 > r_105 then e_107 else r_105))) (.int .i64 (if e_107 > r_105 then e_107 else r_105)) rfl rfl rfl ?_
      refine g_end ?_
      refine e_end ?_
      refine renew [(1, (.int .i64 none_2)), (2, (.fn 94 [(.agg [(Enc.enc (cost_3.fs.1.a : List Int))])] [])), (3, (.ref (.bx 3) 0 [] (.agg [(Enc.enc (w_1.a : List Int))]))), (6, (.sl .nl (Enc.shp Int) 0 [])), (7, (encO (.at 7 []) (.of (best_92 : List Int)))), (8, (.int .i64 set_43)), (9, (.int .i64 t32_93)), (11, (.int .i64 (if e_107 > r_105 then e_107 else r_105))), (30, (Enc.enc (r_81 : List Int))), (31, (.int .i64 (r_81.length : Int))), (32, (.int .i64 t32_93))] ⟨h1, h2, h3, h6, h7, h8, h9, rfl, h30, h31, h32⟩ ?_
      rintro s ⟨h1, h2, h3, h6, h7, h8, h9, h11, h30, h31, h32⟩
      refine .nsq ?_
      refine .seq ?_
      refine run_reg ?_
      refine e_end ?_
      refine g_v1 (t := 9) (u := (.int .i64 t32_93)) (.int .i64 t32_93) h9 rfl rfl ?_
      refine g_v1 (t := 49) (u := (.int .i64 t32_93)) (.bool (t32_93 == 0)) rfl rfl rfl ?_
      refine g_v1 (t := 50) (u := (.bool (t32_93 == 0))) (.bool (t32_93 == 0)) rfl rfl rfl ?_
      refine split_on (c := (t32_93 == 0)) h (fun hg3 h => ?_) (fun hg3 h => ?_)
      · refine g_no (Eq.trans (b := .bool (t32_93 == 0)) rfl (congrArg V.bool hg3)) ?_
        refine g_no (Eq.trans (b := .bool (t32_93 == 0)) rfl (congrArg V.bool hg3)) ?_
        refine g_no (Eq.trans (b := .bool (t32_93 == 0)) rfl (congrArg V.bool hg3)) ?_
        refine g_no (Eq.trans (b := .bool (t32_93 == 0)) rfl (congrArg V.bool hg3)) ?_
        refine g_no (Eq.trans (b := .bool (t32_93 == 0)) rfl (congrArg V.bool hg3)) ?_
        refine g_no (Eq.trans (b := .bool (t32_93 == 0)) rfl (congrArg V.bool hg3)) ?_
        refine g_v2 (t1 := 51) (t2 := 57) (u1 := (.bool true)) (u2 := (.tup [])) (.bool true) (Eq.trans (b := .bool (t32_93 == 0)) rfl (congrArg V.bool hg3)) rfl rfl rfl ?_
        refine g_end ?_
        refine e_end ?_
        refine renew [(1, (.int .i64 none_2)), (2, (.fn 94 [(.agg [(Enc.enc (cost_3.fs.1.a : List Int))])] [])), (3, (.ref (.bx 3) 0 [] (.agg [(Enc.enc (w_1.a : List Int))]))), (6, (.sl .nl (Enc.shp Int) 0 [])), (7, (encO (.at 7 []) (.of (best_92 : List Int)))), (8, (.int .i64 set_43)), (11, (.int .i64 (if e_107 > r_105 then e_107 else r_105))), (30, (Enc.enc (r_81 : List Int))), (31, (.int .i64 (r_81.length : Int))), (32, (.int .i64 t32_93)), (58, (.bool true))] ⟨h1, h2, h3, h6, h7, h8, h11, h30, h31, h32, rfl⟩ ?_
        rintro s ⟨h1, h2, h3, h6, h7, h8, h11, h30, h31, h32, h58⟩
        exact t_f87s1_j2 H none_2 cost_3 w_1 best_92 set_43 e_107 r_105 r_81 t32_93 c1 Hc1 (i_net_bestOrders_of_i_net_eliminated_l1 F none_2 cost_3 w_1 set_43 r_81 c1 k) ih true _ ⟨h1, h2, h3, h6, h7, h8, h11, h30, h31, h32, h58⟩ h
      · refine g_yes (Eq.trans (b := .bool (t32_93 == 0)) rfl (congrArg V.bool hg3)) (g_v1 (t := 11) (u := (.int .i64 (if e_107 > r_105 then e_107 else r_105))) (.int .i64 (if e_107 > r_105 then e_107 else r_105)) h11 rfl rfl ?_)
        refine g_yes (Eq.trans (b := .bool (t32_93 == 0)) rfl (congrArg V.bool hg3)) (g_v1 (t := 7) (u := (encO (.at 7 []) (.of (best_92 : List Int)))) (encO (.at 7 []) (.of (best_92 : List Int))) h7 rfl rfl ?_)
        refine g_yes (Eq.trans (b := .bool (t32_93 == 0)) rfl (congrArg V.bool hg3)) (g_v1 (t := 8) (u := (.int .i64 set_43)) (.int .i64 set_43) h8 rfl rfl ?_)
        obtain ⟨e_113, E_e_113, h⟩ := bind_some h
        refine g_yes (Eq.trans (b := .bool (t32_93 == 0)) rfl (congrArg V.bool hg3)) (g_v (.ref (.at 7 []) set_43.toNat [] (.int .i64 e_113)) (ev_idxO (o := (.of best_92)) rfl rfl E_e_113 rfl) ?_)
        refine g_yes (Eq.trans (b := .bool (t32_93 == 0)) rfl (congrArg V.bool hg3)) (g_v1 (t := 55) (u := (.ref (.at 7 []) set_43.toNat [] (.int .i64 e_113))) (.int .i64 e_113) rfl rfl rfl ?_)
        refine g_yes (Eq.trans (b := .bool (t32_93 == 0)) rfl (congrArg V.bool hg3)) (g_v2 (t1 := 52) (t2 := 56) (u1 := (.int .i64 (if e_107 > r_105 then e_107 else r_105))) (u2 := (.int .i64 e_113)) (.bool (decide ((if e_107 > r_105 then e_107 else r_105) < e_113))) rfl rfl rfl rfl ?_)
        refine g_v2 (t1 := 51) (t2 := 57) (u1 := (.bool false)) (u2 := (.bool (decide ((if e_107 > r_105 then e_107 else r_105) < e_113)))) (.bool (decide ((if e_107 > r_105 then e_107 else r_105) < e_113))) (Eq.trans (b := .bool (t32_93 == 0)) rfl (congrArg V.bool hg3)) rfl rfl rfl ?_
        refine g_end ?_
        refine e_end ?_
        refine renew [(1, (.int .i64 none_2)), (2, (.fn 94 [(.agg [(Enc.enc (cost_3.fs.1.a : List Int))])] [])), (3, (.ref (.bx 3) 0 [] (.agg [(Enc.enc (w_1.a : List Int))]))), (6, (.sl .nl (Enc.shp Int) 0 [])), (7, (encO (.at 7 []) (.of (best_92 : List Int)))), (8, (.int .i64 set_43)), (11, (.int .i64 (if e_107 > r_105 then e_107 else r_105))), (30, (Enc.enc (r_81 : List Int))), (31, (.int .i64 (r_81.length : Int))), (32, (.int .i64 t32_93)), (58, (.bool (decide ((if e_107 > r_105 then e_107 else r_105) < e_113))))] ⟨h1, h2, h3, h6, h7, h8, h11, h30, h31, h32, rfl⟩ ?_
        rintro s ⟨h1, h2, h3, h6, h7, h8, h11, h30, h31, h32, h58⟩
        exact t_f87s1_j2 H none_2 cost_3 w_1 best_92 set_43 e_107 r_105 r_81 t32_93 c1 Hc1 (i_net_bestOrders_of_i_net_eliminated_l1 F none_2 cost_3 w_1 set_43 r_81 c1 k) ih (decide ((if e_107 > r_105 then e_107 else r_105) < e_113)) _ ⟨h1, h2, h3, h6, h7, h8, h11, h30, h31, h32, h58⟩ h
    · refine .exit ?_
      refine .esq ?_
      refine .elp ?_
      refine .ebk ?_
      refine .nbk ?_
      refine .nsq ?_
      refine run_reg ?_
      refine e_end ?_
      refine g_v1 (t := 8) (u := (.int .i64 set_43)) (.int .i64 set_43) h8 rfl rfl ?_
      refine g_v1 (t := 20) (u := (.int .i64 set_43)) (.int .i64 (w64 (set_43 - 1))) rfl rfl rfl ?_
      refine g_v1 (t := 21) (u := (.int .i64 (w64 (set_43 - 1)))) (.int .i64 (w64 (set_43 - 1))) rfl rfl rfl ?_
      refine g_end ?_
      refine e_end ?_
      refine renew [(1, (.int .i64 none_2)), (2, (.fn 94 [(.agg [(Enc.enc (cost_3.fs.1.a : List Int))])] [])), (3, (.ref (.bx 3) 0 [] (.agg [(Enc.enc (w_1.a : List Int))]))), (6, (.sl .nl (Enc.shp Int) 0 [])), (7, (encO (.at 7 []) (.of (best_92 : List Int)))), (8, (.int .i64 (w64 (set_43 - 1))))] ⟨h1, h2, h3, h6, h7, rfl⟩ ?_
      rintro s ⟨h1, h2, h3, h6, h7, h8⟩
      refine .nlp ?_
      exact Hc1 best_92 (w64 (set_43 - 1)) _ ⟨h1, h2, h3, h6, h7, h8⟩ h
def i_net_bestOrders_of_i_net_eliminated_l2 (F : Nat) (none_2 : Int) (cost_3 : (Cl 94 ((S1 (List Int)) × Unit) Unit)) (w_1 : (S1 (List Int)))  : Nat → (List Int) → Int → Option (List Int)
  | 0, _, _ => none
  | k + 1, best_42, set_43 =>
    bif decide (set_43 ≥ 0) then
      (idx best_42 set_43).bind fun e_79 =>
      (i_net_all F w_1).bind fun r_80 =>
      (i_setOf F (iandNot .i64 r_80 set_43)).bind fun r_81 =>
      i_net_bestOrders_of_i_net_eliminated_l1 F none_2 cost_3 w_1 set_43 r_81 (i_net_bestOrders_of_i_net_eliminated_l2 F none_2 cost_3 w_1 k) F (best_42.set set_43.toNat none_2) 0
    else
      some best_42
theorem t_f87s1_l2 (H : H87s1 D σ F) (none_2 : Int) (cost_3 : (Cl 94 ((S1 (List Int)) × Unit) Unit)) (w_1 : (S1 (List Int)))  : ∀ (k : Nat) (best_42 : (List Int)) (set_43 : Int) (s : Nat → V), Facts [(1, (.int .i64 none_2)), (2, (.fn 94 [(.agg [(Enc.enc (cost_3.fs.1.a : List Int))])] [])), (3, (.ref (.bx 3) 0 [] (.agg [(Enc.enc (w_1.a : List Int))]))), (6, (.sl .nl (Enc.shp Int) 0 [])), (7, (encO (.at 7 []) (.of (best_42 : List Int)))), (8, (.int .i64 set_43))] s → i_net_bestOrders_of_i_net_eliminated_l2 F none_2 cost_3 w_1 k best_42 set_43 = some r → Run D σ (R87s1 r) (.run A87s1_1 [.lp A87s1_1, .bk 0, .sq A87s1_14]) s := by
  intro k
  induction k with
  | zero => intro best_42 set_43 s _ h; exact nomatch (h : (none : Option _) = some r)
  | succ k ih =>
    intro best_42 set_43 s hs h
    rw [i_net_bestOrders_of_i_net_eliminated_l2] at h
    obtain ⟨h1, h2, h3, h6, h7, h8⟩ := hs
    refine .seq ?_
    refine .seq ?_
    refine run_reg ?_
    refine e_end ?_
    refine g_v1 (t := 8) (u := (.int .i64 set_43)) (.int .i64 set_43) h8 rfl rfl ?_
    refine g_v1 (t := 18) (u := (.int .i64 set_43)) (.bool (decide (set_43 ≥ 0))) rfl rfl rfl ?_
    refine g_end ?_
    refine e_end ?_
    refine renew [(1, (.int .i64 none_2)), (2, (.fn 94 [(.agg [(Enc.enc (cost_3.fs.1.a : List Int))])] [])), (3, (.ref (.bx 3) 0 [] (.agg [(Enc.enc (w_1.a : List Int))]))), (6, (.sl .nl (Enc.shp Int) 0 [])), (7, (encO (.at 7 []) (.of (best_42 : List Int)))), (8, (.int .i64 set_43)), (19, (.bool (decide (set_43 ≥ 0))))] ⟨h1, h2, h3, h6, h7, h8, rfl⟩ ?_
    rintro s ⟨h1, h2, h3, h6, h7, h8, h19⟩
    refine .nsq ?_
    refine run_cond (t := decide (set_43 ≥ 0)) h19 h (fun h => ?_) (fun h => ?_)
    · refine .skip ?_
      refine .nsq ?_
      refine .seq ?_
      refine .block ?_
      refine .seq ?_
      refine run_reg ?_
      refine e_end ?_
      refine g_v1 (t := 7) (u := (encO (.at 7 []) (.of (best_42 : List Int)))) (encO (.at 7 []) (.of (best_42 : List Int))) h7 rfl rfl ?_
      refine g_v1 (t := 8) (u := (.int .i64 set_43)) (.int .i64 set_43) h8 rfl rfl ?_
      refine g_v1 (t := 1) (u := (.int .i64 none_2)) (.int .i64 none_2) h1 rfl rfl ?_
      obtain ⟨e_79, E_e_79, h⟩ := bind_some h
      refine g_v (.ref (.at 7 []) set_43.toNat [] (.int .i64 e_79)) (ev_idxO (o := (.of best_42)) rfl rfl E_e_79 rfl) ?_
      refine g_store (.int .i64 none_2) (rd_of rfl rfl) (rd_of rfl rfl) (by refine ⟨by decide, by decide, rfl, rfl, rfl, ?_⟩; first | rfl | simp [V.toks, V.tokss, Enc.toks_enc]) ?_
      refine g_end ?_
      refine e_end ?_
      refine renew [(1, (.int .i64 none_2)), (2, (.fn 94 [(.agg [(Enc.enc (cost_3.fs.1.a : List Int))])] [])), (3, (.ref (.bx 3) 0 [] (.agg [(Enc.enc (w_1.a : List Int))]))), (6, (.sl .nl (Enc.shp Int) 0 [])), (7, (encO (.at 7 []) (.of (best_42.set set_43.toNat none_2 : List Int)))), (8, (.int .i64 set_43))] ⟨(keep_mut h1 rfl), (keep_mut h2 (mut_fn (muts_cons (mut_agg (muts_cons (Enc.mut_enc _ _ _ _ (cost_3.fs.1.a : List Int)) rfl)) rfl) rfl)), (keep_mut h3 (mut_ref_ne rfl rfl (mut_agg (muts_cons (Enc.mut_enc _ _ _ _ (w_1.a : List Int)) rfl)))), (keep_mut h6 rfl), (keep_mut h7 mut_own), (keep_mut h8 rfl)⟩ ?_
      rintro s ⟨h1, h2, h3, h6, h7, h8⟩
      refine .nsq ?_
      refine .seq ?_
      refine run_reg ?_
      refine e_end ?_
      refine g_v1 (t := 3) (u := (.ref (.bx 3) 0 [] (.agg [(Enc.enc (w_1.a : List Int))]))) (.agg [(Enc.enc (w_1.a : List Int))]) h3 rfl rfl ?_
      obtain ⟨r_80, E_r_80, h⟩ := bind_some h
      refine g_call (m := 0) (al := false) (r := (Enc.enc (r_80 : Int))) [Enc.enc (w_1 : (S1 (List Int)))] (ta_cons (v := (.agg [(Enc.enc (w_1.a : List Int))])) rfl rfl (Enc.erase_enc (w_1 : (S1 (List Int)))) ta_nil) (H.c59 _ _ E_r_80) H.g59 rfl rfl rfl rfl ?_
      refine g_v1 (t := 8) (u := (.int .i64 set_43)) (.int .i64 set_43) h8 rfl rfl ?_
      refine g_v2 (t1 := 27) (t2 := 28) (u1 := (.int .i64 r_80)) (u2 := (.int .i64 set_43)) (.int .i64 (iandNot .i64 r_80 set_43)) rfl rfl rfl rfl ?_
      obtain ⟨r_81, E_r_81, h⟩ := bind_some h
      refine g_call (m := 0) (al := false) (r := (Enc.enc (r_81 : (List Int)))) [Enc.enc (iandNot .i64 r_80 set_43 : Int)] (ta_cons (v := (.int .i64 (iandNot .i64 r_80 set_43))) rfl rfl rfl ta_nil) (H.c60 _ _ E_r_81) H.g60 rfl rfl rfl rfl ?_
      refine g_v (.int .i64 (r_81.length : Int)) (ev_len (xs := r_81) rfl) ?_
      refine g_v0 (.int .i64 0) rfl rfl ?_
      refine g_end ?_
      refine e_end ?_
      refine renew [(1, (.int .i64 none_2)), (2, (.fn 94 [(.agg [(Enc.enc (cost_3.fs.1.a : List Int))])] [])), (3, (.ref (.bx 3) 0 [] (.agg [(Enc.enc (w_1.a : List Int))]))), (6, (.sl .nl (Enc.shp Int) 0 [])), (7, (encO (.at 7 []) (.of (best_42.set set_43.toNat none_2 : List Int)))), (8, (.int .i64 set_43)), (30, (Enc.enc (r_81 : List Int))), (31, (.int .i64 (r_81.length : Int))), (32, (.int .i64 0))] ⟨h1, h2, h3, h6, h7, h8, rfl, rfl, rfl⟩ ?_
      rintro s ⟨h1, h2, h3, h6, h7, h8, h30, h31, h32⟩
      refine .nsq ?_
      refine .block ?_
      refine .loop ?_
      exact t_f87s1_l1 H none_2 cost_3 w_1 set_43 r_81 (i_net_bestOrders_of_i_net_eliminated_l2 F none_2 cost_3 w_1 k) ih F (best_42.set set_43.toNat none_2) 0 _ ⟨h1, h2, h3, h6, h7, h8, h30, h31, h32⟩ h
    · refine .exit ?_
      refine .esq ?_
      refine .elp ?_
      refine .ebk ?_
      refine .nsq ?_
      refine .seq ?_
      refine run_reg ?_
      refine e_end ?_
      refine g_v1 (t := 7) (u := (encO (.at 7 []) (.of (best_42 : List Int)))) (encO (.at 7 []) (.of (best_42 : List Int))) h7 rfl rfl ?_
      refine g_v1 (t := 64) (u := (encO (.at 7 []) (.of (best_42 : List Int)))) (encO (.at 7 []) (.of (best_42 : List Int))) rfl rfl rfl ?_
      refine g_end ?_
      refine e_home (r := 7) (x := 6) (v := (encO (.at 7 []) (.of (best_42 : List Int)))) (by exact rfl) rfl (fun s_4 hg_4 => ?_)
      refine e_end ?_
      refine renew [(6, (encO (.at 6 []) (.of (best_42 : List Int))))] (hg_4 6 (encO (.at 7 []) (.of (best_42 : List Int))) (encO (.at 6 []) (.of (best_42 : List Int))) rfl (map_encO (r := 7) (p := []) rfl rfl)) ?_
      rintro s h6
      refine .nsq ?_
      refine .ret ?_
      have hr := Option.some.inj h
      subst hr
      exact rrA (res_tmp h6) (fin_retF (fin_own (o := .of best_42)) (mine_own rfl))
def i_net_bestOrders_of_i_net_eliminated (F : Nat) (w_1 : (S1 (List Int))) (none_2 : Int) (cost_3 : (Cl 94 ((S1 (List Int)) × Unit) Unit)) : Option (List Int) :=
  (i_net_all F w_1).bind fun r_4 =>
  (mkN (w64 (r_4 + 1)) (0 : Int)).bind fun mk_5 =>
  (i_net_all F w_1).bind fun r_6 =>
  i_net_bestOrders_of_i_net_eliminated_l2 F none_2 cost_3 w_1 F mk_5 r_6
theorem t87s1 (H : H87s1 D σ F) (w_1 : (S1 (List Int))) (none_2 : Int) (cost_3 : (Cl 94 ((S1 (List Int)) × Unit) Unit)) (s : Nat → V) (hs : Facts [(0, (.agg [(Enc.enc (w_1.a : List Int))])), (1, (.int .i64 none_2)), (2, (.fn 94 [(.agg [(Enc.enc (cost_3.fs.1.a : List Int))])] []))] s) (h : i_net_bestOrders_of_i_net_eliminated F w_1 none_2 cost_3 = some r) : Run D σ (R87s1 r) (.run A87s1 []) s := by
  unfold i_net_bestOrders_of_i_net_eliminated at h
  obtain ⟨h0, h1, h2⟩ := hs
  refine .seq ?_
  refine run_reg ?_
  refine e_clr ?_
  refine e_end ?_
  refine g_box (.agg [(Enc.enc (w_1.a : List Int))]) (rd_of (keep_clear (s := s) (pk := [3]) h0 rfl (map_agg (maps_cons (Enc.map_enc _ (w_1.a : List Int)) maps_nil))) rfl) (gone_clear (s := s) (pk := [3]) (t := 3) rfl) rfl ?_
  refine g_v0 (.sl .nl (Enc.shp Int) 0 []) rfl rfl ?_
  refine g_end ?_
  refine e_end ?_
  refine renew [(1, (.int .i64 none_2)), (2, (.fn 94 [(.agg [(Enc.enc (cost_3.fs.1.a : List Int))])] [])), (3, (.ref (.bx 3) 0 [] (.agg [(Enc.enc (w_1.a : List Int))]))), (6, (.sl .nl (Enc.shp Int) 0 []))] ⟨(keep_clear (s := s) (pk := [3]) h1 rfl rfl), (keep_clear (s := s) (pk := [3]) h2 rfl (map_fn (maps_cons (map_agg (maps_cons (Enc.map_enc _ (cost_3.fs.1.a : List Int)) maps_nil)) maps_nil) maps_nil)), rfl, rfl⟩ ?_
  rintro s ⟨h1, h2, h3, h6⟩
  refine .nsq ?_
  refine .seq ?_
  refine run_reg ?_
  refine e_clr ?_
  refine e_end ?_
  refine g_v1 (t := 3) (u := (.ref (.bx 3) 0 [] (.agg [(Enc.enc (w_1.a : List Int))]))) (.agg [(Enc.enc (w_1.a : List Int))]) (keep_clear (s := s) (pk := [15]) h3 rfl (map_bx rfl (map_agg (maps_cons (Enc.map_enc _ (w_1.a : List Int)) maps_nil)))) rfl rfl ?_
  obtain ⟨r_4, E_r_4, h⟩ := bind_some h
  refine g_call (m := 0) (al := false) (r := (Enc.enc (r_4 : Int))) [Enc.enc (w_1 : (S1 (List Int)))] (ta_cons (v := (.agg [(Enc.enc (w_1.a : List Int))])) rfl rfl (Enc.erase_enc (w_1 : (S1 (List Int)))) ta_nil) (H.c59 _ _ E_r_4) H.g59 rfl rfl rfl rfl ?_
  refine g_v1 (t := 13) (u := (.int .i64 r_4)) (.int .i64 (w64 (r_4 + 1))) rfl rfl rfl ?_
  obtain ⟨mk_5, E_mk_5, h⟩ := bind_some h
  refine g_mk (0 : Int) rfl rfl (gone_clear (s := s) (pk := [15]) (t := 15) rfl) E_mk_5 ?_
  refine g_v1 (t := 15) (u := (encO (.at 15 []) (.of (mk_5 : List Int)))) (encO (.at 15 []) (.of (mk_5 : List Int))) rfl rfl rfl ?_
  refine g_end ?_
  refine e_home (r := 15) (x := 7) (v := (encO (.at 15 []) (.of (mk_5 : List Int)))) (by exact rfl) rfl (fun s_3 hg_3 => ?_)
  refine e_end ?_
  refine renew [(1, (.int .i64 none_2)), (2, (.fn 94 [(.agg [(Enc.enc (cost_3.fs.1.a : List Int))])] [])), (3, (.ref (.bx 3) 0 [] (.agg [(Enc.enc (w_1.a : List Int))]))), (6, (.sl .nl (Enc.shp Int) 0 [])), (7, (encO (.at 7 []) (.of (mk_5 : List Int))))] ⟨(hg_3 1 (.int .i64 none_2) (.int .i64 none_2) (keep_clear (s := s) (pk := [15]) h1 rfl rfl) rfl), (hg_3 2 (.fn 94 [(.agg [(Enc.enc (cost_3.fs.1.a : List Int))])] []) (.fn 94 [(.agg [(Enc.enc (cost_3.fs.1.a : List Int))])] []) (keep_clear (s := s) (pk := [15]) h2 rfl (map_fn (maps_cons (map_agg (maps_cons (Enc.map_enc _ (cost_3.fs.1.a : List Int)) maps_nil)) maps_nil) maps_nil)) (map_fn (maps_cons (map_agg (maps_cons (Enc.map_enc _ (cost_3.fs.1.a : List Int)) maps_nil)) maps_nil) maps_nil)), (hg_3 3 (.ref (.bx 3) 0 [] (.agg [(Enc.enc (w_1.a : List Int))])) (.ref (.bx 3) 0 [] (.agg [(Enc.enc (w_1.a : List Int))])) (keep_clear (s := s) (pk := [15]) h3 rfl (map_bx rfl (map_agg (maps_cons (Enc.map_enc _ (w_1.a : List Int)) maps_nil)))) (map_bx rfl (map_agg (maps_cons (Enc.map_enc _ (w_1.a : List Int)) maps_nil)))), (hg_3 6 (.sl .nl (Enc.shp Int) 0 []) (.sl .nl (Enc.shp Int) 0 []) (keep_clear (s := s) (pk := [15]) h6 rfl rfl) rfl), (hg_3 7 (encO (.at 15 []) (.of (mk_5 : List Int))) (encO (.at 7 []) (.of (mk_5 : List Int))) rfl (map_encO (r := 15) (p := []) rfl rfl))⟩ ?_
  rintro s ⟨h1, h2, h3, h6, h7⟩
  refine .nsq ?_
  refine .seq ?_
  refine .seq ?_
  refine run_reg ?_
  refine e_end ?_
  refine g_v1 (t := 3) (u := (.ref (.bx 3) 0 [] (.agg [(Enc.enc (w_1.a : List Int))]))) (.agg [(Enc.enc (w_1.a : List Int))]) h3 rfl rfl ?_
  obtain ⟨r_6, E_r_6, h⟩ := bind_some h
  refine g_call (m := 0) (al := false) (r := (Enc.enc (r_6 : Int))) [Enc.enc (w_1 : (S1 (List Int)))] (ta_cons (v := (.agg [(Enc.enc (w_1.a : List Int))])) rfl rfl (Enc.erase_enc (w_1 : (S1 (List Int)))) ta_nil) (H.c59 _ _ E_r_6) H.g59 rfl rfl rfl rfl ?_
  refine g_v1 (t := 17) (u := (.int .i64 r_6)) (.int .i64 r_6) rfl rfl rfl ?_
  refine g_end ?_
  refine e_end ?_
  refine renew [(1, (.int .i64 none_2)), (2, (.fn 94 [(.agg [(Enc.enc (cost_3.fs.1.a : List Int))])] [])), (3, (.ref (.bx 3) 0 [] (.agg [(Enc.enc (w_1.a : List Int))]))), (6, (.sl .nl (Enc.shp Int) 0 [])), (7, (encO (.at 7 []) (.of (mk_5 : List Int)))), (8, (.int .i64 r_6))] ⟨h1, h2, h3, h6, h7, rfl⟩ ?_
  rintro s ⟨h1, h2, h3, h6, h7, h8⟩
  refine .nsq ?_
  refine .block ?_
  refine .loop ?_
  exact t_f87s1_l2 H none_2 cost_3 w_1 F mk_5 r_6 _ ⟨h1, h2, h3, h6, h7, h8⟩ h
end
def e87s1 (F : Nat) : Ent := ⟨87, da (fun (x : ((S1 (List Int)) × Int × (Cl 94 ((S1 (List Int)) × Unit) Unit) × Unit)) => i_net_bestOrders_of_i_net_eliminated F x.1 x.2.1 x.2.2.1) (fun (r : (List Int)) => (Enc.enc (r : (List Int)))), 0, false, selF [(2, 94)]⟩
theorem p87s1 {F : Nat} {x0 : (S1 (List Int))} {x1 : Int} {x2 : (Cl 94 ((S1 (List Int)) × Unit) Unit)} {r : (List Int)} (h : i_net_bestOrders_of_i_net_eliminated F x0 x1 x2 = some r) : (e87s1 F).den [Enc.enc x0, Enc.enc x1, Arg.arg x2] = some (Enc.enc (r : (List Int))) := da_put (f := fun (x : ((S1 (List Int)) × Int × (Cl 94 ((S1 (List Int)) × Unit) Unit) × Unit)) => i_net_bestOrders_of_i_net_eliminated F x.1 x.2.1 x.2.2.1) (t := fun (r : (List Int)) => (Enc.enc (r : (List Int)))) (x0, x1, x2, ()) h
theorem o87s1 {D : Den} {σ : Sig} {F : Nat} (hF : Fits2 Try.prog D σ) (H : H87s1 D σ F) : (e87s1 F).Ok Try.prog := by
  refine ok_of (f := 87) (show unk 87 = 87 from rfl) (fun args r h => ?_) ⟨Try.f87, Try.func87, rfl, rfl⟩
  obtain ⟨⟨x0, x1, x2, _⟩, y, rfl, hy, rfl⟩ := da_open h
  exact contract_run hF (by kernel_rfl) Try.func87 rfl c87s1 (show 3 ≤ Try.f87.ntmps by decide) (t87s1 H x0 x1 x2 _ ⟨rfl, rfl, rfl⟩ hy)
/- (loop.example/g01109/impl.net).elimination -/
def A93_1 : AC := (.seq (.reg [] [(.mk (some 3) none false (.v (.load (.ag [.p]) (.t 1)))), (.mk (some 4) none false (.v (.load (.ag [.p]) (.t 1)))), (.mk (some 5) none false (.v (.fn 94 [(.t 4)] []))), (.mk (some 6) none false (.call (.k (.fn 87 [] [])) [(.t 3), (.k (.int .i64 (.negSucc 0))), (.t 5)])), (.mk (some 2) none false (.v (.mov (.t 6))))] []) .ret)
def A93 : AC := (.seq (.reg [.clr [1]] [(.mk (some 1) none false (.box (.t 0))), (.mk (some 2) none false (.v (.mov (.k (.sl .nl .s 0 [])))))] []) A93_1)
def an93 : List An := [{ id := 0, pre := [.clr [1]], ep := [], lin := [], sp := [] }]
theorem c93 : cC Try.prog Try.f93.ntmps an93 (Try.f93.body.getD .skip) = some A93 := by kernel_rfl
structure H93 (D : Den) (σ : Sig) (F : Nat) : Prop where
  c87s1 : ∀ (x0 : (S1 (List Int))) (x1 : Int) (x2 : (Cl 94 ((S1 (List Int)) × Unit) Unit)) r, i_net_bestOrders_of_i_net_eliminated F x0 x1 x2 = some r → D 87 [Enc.enc x0, Enc.enc x1, Arg.arg x2] = some (Enc.enc (r : (List Int)))
  g87s1 : σ 87 = some (0, false)
abbrev R93 (r : (List Int)) : (Nat → V) → Prop := RR Try.prog [.tmp 2] 0 true (Enc.enc (r : (List Int)))
section
variable {D : Den} {σ : Sig} {F : Nat} {r : (List Int)}
def i_net_elimination (F : Nat) (w_1 : (S1 (List Int))) : Option (List Int) :=
  (i_net_bestOrders_of_i_net_eliminated F w_1 (-1) (Cl.mk (w_1, ()) () : (Cl 94 ((S1 (List Int)) × Unit) Unit))).bind fun r_2 =>
  some r_2
theorem t93 (H : H93 D σ F) (w_1 : (S1 (List Int))) (s : Nat → V) (hs : Facts [(0, (.agg [(Enc.enc (w_1.a : List Int))]))] s) (h : i_net_elimination F w_1 = some r) : Run D σ (R93 r) (.run A93 []) s := by
  unfold i_net_elimination at h
  have h0 := hs
  refine .seq ?_
  refine run_reg ?_
  refine e_clr ?_
  refine e_end ?_
  refine g_box (.agg [(Enc.enc (w_1.a : List Int))]) (rd_of (keep_clear (s := s) (pk := [1]) h0 rfl (map_agg (maps_cons (Enc.map_enc _ (w_1.a : List Int)) maps_nil))) rfl) (gone_clear (s := s) (pk := [1]) (t := 1) rfl) rfl ?_
  refine g_v0 (.sl .nl (Enc.shp Int) 0 []) rfl rfl ?_
  refine g_end ?_
  refine e_end ?_
  refine renew [(1, (.ref (.bx 1) 0 [] (.agg [(Enc.enc (w_1.a : List Int))]))), (2, (.sl .nl (Enc.shp Int) 0 []))] ⟨rfl, rfl⟩ ?_
  rintro s ⟨h1, h2⟩
  refine .nsq ?_
  refine .seq ?_
  refine run_reg ?_
  refine e_end ?_
  refine g_v1 (t := 1) (u := (.ref (.bx 1) 0 [] (.agg [(Enc.enc (w_1.a : List Int))]))) (.agg [(Enc.enc (w_1.a : List Int))]) h1 rfl rfl ?_
  refine g_v1 (t := 1) (u := (.ref (.bx 1) 0 [] (.agg [(Enc.enc (w_1.a : List Int))]))) (.agg [(Enc.enc (w_1.a : List Int))]) h1 rfl rfl ?_
  refine g_v1 (t := 4) (u := (.agg [(Enc.enc (w_1.a : List Int))])) (.fn 94 [(.agg [(Enc.enc (w_1.a : List Int))])] []) rfl rfl rfl ?_
  obtain ⟨r_2, E_r_2, h⟩ := bind_some h
  refine g_call (m := 0) (al := false) (r := (Enc.enc (r_2 : (List Int)))) [Enc.enc (w_1 : (S1 (List Int))), Enc.enc ((-1) : Int), Arg.arg ((Cl.mk (w_1, ()) () : (Cl 94 ((S1 (List Int)) × Unit) Unit)) : (Cl 94 ((S1 (List Int)) × Unit) Unit))] (ta_cons (v := (.agg [(Enc.enc (w_1.a : List Int))])) rfl rfl (Enc.erase_enc (w_1 : (S1 (List Int)))) (ta_cons (v := (.int .i64 (-1))) rfl rfl rfl (ta_cons (v := (.fn 94 [(.agg [(Enc.enc (w_1.a : List Int))])] [])) rfl rfl (erase_fn (erases_cons (Enc.erase_enc (w_1 : (S1 (List Int)))) erases_nil) erases_nil) ta_nil))) (H.c87s1 _ _ _ _ E_r_2) H.g87s1 rfl rfl rfl rfl ?_
  refine g_v1 (t := 6) (u := (Enc.enc (r_2 : List Int))) (Enc.enc (r_2 : List Int)) rfl rfl rfl ?_
  refine g_end ?_
  refine e_end ?_
  refine renew [(2, (Enc.enc (r_2 : List Int)))] rfl ?_
  rintro s h2
  refine .nsq ?_
  refine .ret ?_
  have hr := Option.some.inj h
  subst hr
  exact rrA (res_tmp h2) (fin_ret1 (fin_enc (x := (r_2 : (List Int)))))
end
def e93 (F : Nat) : Ent := ⟨93, da (fun (x : ((S1 (List Int)) × Unit)) => i_net_elimination F x.1) (fun (r : (List Int)) => (Enc.enc (r : (List Int)))), 0, true, selF []⟩
theorem p93 {F : Nat} {x0 : (S1 (List Int))} {r : (List Int)} (h : i_net_elimination F x0 = some r) : (e93 F).den [Enc.enc x0] = some (Enc.enc (r : (List Int))) := da_put (f := fun (x : ((S1 (List Int)) × Unit)) => i_net_elimination F x.1) (t := fun (r : (List Int)) => (Enc.enc (r : (List Int)))) (x0, ()) h
theorem o93 {D : Den} {σ : Sig} {F : Nat} (hF : Fits2 Try.prog D σ) (H : H93 D σ F) : (e93 F).Ok Try.prog := by
  refine ok_of (f := 93) (show unk 93 = 93 from rfl) (fun args r h => ?_) ⟨Try.f93, Try.func93, rfl, rfl⟩
  obtain ⟨⟨x0, _⟩, y, rfl, hy, rfl⟩ := da_open h
  exact contract_run hF (by kernel_rfl) Try.func93 rfl c93 (show 1 ≤ Try.f93.ntmps by decide) (t93 H x0 _ rfl hy)
/- (loop.example/g01109/impl.net).firstOrder -/
def A89s2o_2 : AC := (.cond (.t 14) .skip (.exit 0))
def A89s2o_10 : AC := (.seq (.reg [] [(.mk (some 45) none false (.v (.mov (.t 8)))), (.mk (some 46) none false (.v (.mov (.t 10)))), (.mk (some 47) none false (.v (.bin .shl (.k (.int .i64 (.ofNat 1))) (.t 46)))), (.mk (some 48) none false (.v (.bin .or (.t 45) (.t 47)))), (.mk (some 8) none false (.v (.mov (.t 48))))] []) (.exit 2))
def A89s2o_9 : AC := (.cond (.t 40) (.seq (.reg [.clr [43, 44]] [(.mk (some 41) none false (.v (.mov (.t 7)))), (.mk (some 42) none false (.v (.mov (.t 10)))), (.mk (some 43) none false (.lit (.int .i64 (.ofNat 0)) 1 [(0, 0, (.t 42))])), (.mk (some 44) none false (.app .s (.t 41) (.t 43))), (.mk (some 7) none false (.v (.mov (.t 44))))] [.home 44 7]) A89s2o_10) .skip)
def A89s2o_8 : AC := (.seq (.reg [] [(.mk (some 25) none false (.v (.mov (.t 2)))), (.mk (some 26) none false (.v (.mov (.t 8)))), (.mk (some 27) none false (.v (.mov (.t 10)))), (.mk (some 28) none false (.call (.t 25) [(.t 26), (.t 27)])), (.mk (some 29) none false (.v (.mov (.t 1)))), (.mk (some 30) none false (.v (.mov (.t 8)))), (.mk (some 31) none false (.v (.mov (.t 10)))), (.mk (some 32) none false (.v (.bin .shl (.k (.int .i64 (.ofNat 1))) (.t 31)))), (.mk (some 33) none false (.v (.bin .or (.t 30) (.t 32)))), (.mk (some 34) none false (.v (.idx (.t 29) (.t 33) 1))), (.mk (some 35) none false (.v (.load .s (.t 34)))), (.mk (some 36) none false (.v (.mx [(.t 28), (.t 35)]))), (.mk (some 37) none false (.v (.mov (.t 1)))), (.mk (some 38) none false (.v (.idx (.t 37) (.k (.int .i64 (.ofNat 0))) 1))), (.mk (some 39) none false (.v (.load .s (.t 38)))), (.mk (some 40) none false (.v (.bin .leq (.t 36) (.t 39))))] []) A89s2o_9)
def A89s2o_11 : AC := (.reg [] [(.mk (some 49) none false (.v (.bin .add (.t 21) (.k (.int .i64 (.ofNat 1)))))), (.mk (some 21) none false (.v (.mov (.t 49))))] [])
def A89s2o_7 : AC := (.seq (.block 3 (.seq (.reg [] [(.mk (some 23) none false (.v (.idx (.t 19) (.t 21) 1))), (.mk (some 24) none false (.v (.load .s (.t 23)))), (.mk (some 10) none false (.v (.mov (.t 24))))] []) A89s2o_8)) A89s2o_11)
def A89s2o_6 : AC := (.seq (.cond (.t 22) .skip (.exit 2)) A89s2o_7)
def A89s2o_5 : AC := (.seq (.reg [] [(.mk (some 22) none false (.v (.bin .lss (.t 21) (.t 20))))] []) A89s2o_6)
def A89s2o_4 : AC := (.block 2 (.loop A89s2o_5))
def A89s2o_3 : AC := (.block 1 (.seq (.reg [] [(.mk (some 15) none false (.v (.load (.ag [.p]) (.t 3)))), (.mk (some 16) none false (.call (.k (.fn 59 [] [])) [(.t 15)])), (.mk (some 17) none false (.v (.mov (.t 8)))), (.mk (some 18) none false (.v (.bin .andNot (.t 16) (.t 17)))), (.mk (some 19) none false (.call (.k (.fn 60 [] [])) [(.t 18)])), (.mk (some 20) none false (.v (.len (.t 19)))), (.mk (some 21) none false (.v (.mov (.k (.int .i64 (.ofNat 0))))))] []) A89s2o_4))
def A89s2o_1 : AC := (.seq (.seq (.reg [] [(.mk (some 11) none false (.v (.mov (.t 8)))), (.mk (some 12) none false (.v (.load (.ag [.p]) (.t 3)))), (.mk (some 13) none false (.call (.k (.fn 59 [] [])) [(.t 12)])), (.mk (some 14) none false (.v (.bin .neq (.t 11) (.t 13))))] []) A89s2o_2) A89s2o_3)
def A89s2o_12 : AC := (.seq (.reg [] [(.mk (some 50) none false (.v (.mov (.t 7)))), (.mk (some 6) none false (.v (.mov (.t 50))))] [.home 7 6]) .ret)
def A89s2o_15 : AC := (.block 0 (.loop A89s2o_1))
def A89s2o_14 : AC := (.seq (.seq (.reg [] [(.mk (some 8) none false (.v (.mov (.k (.int .i64 (.ofNat 0))))))] []) A89s2o_15) A89s2o_12)
def A89s2o_13 : AC := (.seq (.reg [] [(.mk (some 7) none false (.v (.mov (.k (.sl .nl .s 0 [])))))] []) A89s2o_14)
def A89s2o : AC := (.seq (.reg [.clr [3]] [(.mk (some 3) none false (.box (.t 0))), (.mk (some 6) none false (.v (.mov (.k (.sl .nl .s 0 [])))))] []) A89s2o_13)
def an89s2o : List An := [{ id := 0, pre := [.clr [3]], ep := [], lin := [], sp := [] }, { id := 8, pre := [.clr [43, 44]], ep := [.home 44 7], lin := [], sp := [] }, { id := 11, pre := [], ep := [.home 7 6], lin := [], sp := [] }]
theorem c89s2o : cC Try.prog Try.f89.ntmps an89s2o (Try.f89.body.getD .skip) = some A89s2o := by kernel_rfl
structure H89s2o (D : Den) (σ : Sig) (F : Nat) : Prop where
  c59 : ∀ (x0 : (S1 (List Int))) r, i_net_all F x0 = some r → D 59 [Enc.enc x0] = some (Enc.enc (r : Int))
  g59 : σ 59 = some (0, false)
  c60 : ∀ (x0 : Int) r, i_setOf F x0 = some r → D 60 [Enc.enc x0] = some (Enc.enc (r : (List Int)))
  g60 : σ 60 = some (0, false)
  c94 : ∀ (x0 : (S1 (List Int))) (x1 : Int) (x2 : Int) r, i_net_eliminated F x0 x1 x2 = some r → D 94 [Enc.enc x0, Enc.enc x1, Enc.enc x2] = some (Enc.enc (r : Int))
  g94 : σ 94 = some (0, false)
abbrev R89s2o (r : (NL Int)) : (Nat → V) → Prop := RR Try.prog [.tmp 6] 1 false (encO .sh (r : NL Int))
section
variable {D : Den} {σ : Sig} {F : Nat} {r : (NL Int)}
def i_net_firstOrder_of_i_net_eliminated_o_l1 (F : Nat) (best_2 : (List Int)) (cost_3 : (Cl 94 ((S1 (List Int)) × Unit) Unit)) (w_1 : (S1 (List Int))) (order_35 : (NL Int)) (set_36 : Int) (r_70 : (List Int)) (c1 : (NL Int) → Int → Option (NL Int)) : Nat → Int → Option (NL Int)
  | 0, _ => none
  | k + 1, t21_80 =>
    bif decide (t21_80 < (r_70.length : Int)) then
      (idx r_70 t21_80).bind fun e_90 =>
      (i_net_eliminated F cost_3.fs.1 set_36 e_90).bind fun r_91 =>
      (shlI .i64 1 e_90).bind fun q_92 =>
      (idx best_2 (ior .i64 set_36 q_92)).bind fun e_93 =>
      (idx best_2 0).bind fun e_94 =>
      bif decide ((if e_93 > r_91 then e_93 else r_91) ≤ e_94) then
        (appL order_35.list [e_90]).bind fun ap_97 =>
        (shlI .i64 1 e_90).bind fun q_98 =>
        c1 (.of ap_97) (ior .i64 set_36 q_98)
      else
        (i_net_firstOrder_of_i_net_eliminated_o_l1 F best_2 cost_3 w_1 order_35 set_36 r_70 c1 k) (w64 (t21_80 + 1))
    else
      c1 order_35 set_36
theorem t_f89s2o_l1 (H : H89s2o D σ F) (best_2 : (List Int)) (cost_3 : (Cl 94 ((S1 (List Int)) × Unit) Unit)) (w_1 : (S1 (List Int))) (order_35 : (NL Int)) (set_36 : Int) (r_70 : (List Int)) (c1 : (NL Int) → Int → Option (NL Int)) (Hc1 : ∀ (order_35 : (NL Int)) (set_36 : Int) (s : Nat → V), Facts [(1, (Enc.enc (best_2 : List Int))), (2, (.fn 94 [(.agg [(Enc.enc (cost_3.fs.1.a : List Int))])] [])), (3, (.ref (.bx 3) 0 [] (.agg [(Enc.enc (w_1.a : List Int))]))), (6, (.sl .nl (Enc.shp Int) 0 [])), (7, (encO (.at 7 []) (order_35 : NL Int))), (8, (.int .i64 set_36))] s → c1 order_35 set_36 = some r → Run D σ (R89s2o r) (.run A89s2o_1 [.lp A89s2o_1, .bk 0, .sq A89s2o_12]) s) : ∀ (k : Nat) (t21_80 : Int) (s : Nat → V), Facts [(1, (Enc.enc (best_2 : List Int))), (2, (.fn 94 [(.agg [(Enc.enc (cost_3.fs.1.a : List Int))])] [])), (3, (.ref (.bx 3) 0 [] (.agg [(Enc.enc (w_1.a : List Int))]))), (6, (.sl .nl (Enc.shp Int) 0 [])), (7, (encO (.at 7 []) (order_35 : NL Int))), (8, (.int .i64 set_36)), (19, (Enc.enc (r_70 : List Int))), (20, (.int .i64 (r_70.length : Int))), (21, (.int .i64 t21_80))] s → i_net_firstOrder_of_i_net_eliminated_o_l1 F best_2 cost_3 w_1 order_35 set_36 r_70 c1 k t21_80 = some r → Run D σ (R89s2o r) (.run A89s2o_5 [.lp A89s2o_5, .bk 2, .bk 1, .lp A89s2o_1, .bk 0, .sq A89s2o_12]) s := by
  intro k
  induction k with
  | zero => intro t21_80 s _ h; exact nomatch (h : (none : Option _) = some r)
  | succ k ih =>
    intro t21_80 s hs h
    rw [i_net_firstOrder_of_i_net_eliminated_o_l1] at h
    obtain ⟨h1, h2, h3, h6, h7, h8, h19, h20, h21⟩ := hs
    refine .seq ?_
    refine run_reg ?_
    refine e_end ?_
    refine g_v2 (t1 := 21) (t2 := 20) (u1 := (.int .i64 t21_80)) (u2 := (.int .i64 (r_70.length : Int))) (.bool (decide (t21_80 < (r_70.length : Int)))) h21 h20 rfl rfl ?_
    refine g_end ?_
    refine e_end ?_
    refine renew [(1, (Enc.enc (best_2 : List Int))), (2, (.fn 94 [(.agg [(Enc.enc (cost_3.fs.1.a : List Int))])] [])), (3, (.ref (.bx 3) 0 [] (.agg [(Enc.enc (w_1.a : List Int))]))), (6, (.sl .nl (Enc.shp Int) 0 [])), (7, (encO (.at 7 []) (order_35 : NL Int))), (8, (.int .i64 set_36)), (19, (Enc.enc (r_70 : List Int))), (20, (.int .i64 (r_70.length : Int))), (21, (.int .i64 t21_80)), (22, (.bool (decide (t21_80 < (r_70.length : Int)))))] ⟨h1, h2, h3, h6, h7, h8, h19, h20, h21, rfl⟩ ?_
    rintro s ⟨h1, h2, h3, h6, h7, h8, h19, h20, h21, h22⟩
    refine .nsq ?_
    refine .seq ?_
    refine run_cond (t := decide (t21_80 < (r_70.length : Int))) h22 h (fun h => ?_) (fun h => ?_)
    · refine .skip ?_
      refine .nsq ?_
      refine .seq ?_
      refine .block ?_
      refine .seq ?_
      refine run_reg ?_
      refine e_end ?_
      obtain ⟨e_90, E_e_90, h⟩ := bind_some h
      refine g_v (.ref .sh 0 [] (.int .i64 e_90)) (ev_idx (t := .sh) (lo := 0) (xs := r_70) h19 h21 E_e_90 rfl rfl) ?_
      refine g_v1 (t := 23) (u := (.ref .sh 0 [] (.int .i64 e_90))) (.int .i64 e_90) rfl rfl rfl ?_
      refine g_v1 (t := 24) (u := (.int .i64 e_90)) (.int .i64 e_90) rfl rfl rfl ?_
      refine g_end ?_
      refine e_end ?_
      refine renew [(1, (Enc.enc (best_2 : List Int))), (2, (.fn 94 [(.agg [(Enc.enc (cost_3.fs.1.a : List Int))])] [])), (3, (.ref (.bx 3) 0 [] (.agg [(Enc.enc (w_1.a : List Int))]))), (6, (.sl .nl (Enc.shp Int) 0 [])), (7, (encO (.at 7 []) (order_35 : NL Int))), (8, (.int .i64 set_36)), (10, (.int .i64 e_90)), (19, (Enc.enc (r_70 : List Int))), (20, (.int .i64 (r_70.length : Int))), (21, (.int .i64 t21_80))] ⟨h1, h2, h3, h6, h7, h8, rfl, h19, h20, h21⟩ ?_
      rintro s ⟨h1, h2, h3, h6, h7, h8, h10, h19, h20, h21⟩
      refine .nsq ?_
      refine .seq ?_
      refine run_reg ?_
      refine e_end ?_
      refine g_v1 (t := 2) (u := (.fn 94 [(.agg [(Enc.enc (cost_3.fs.1.a : List Int))])] [])) (.fn 94 [(.agg [(Enc.enc (cost_3.fs.1.a : List Int))])] []) h2 rfl rfl ?_
      refine g_v1 (t := 8) (u := (.int .i64 set_36)) (.int .i64 set_36) h8 rfl rfl ?_
      refine g_v1 (t := 10) (u := (.int .i64 e_90)) (.int .i64 e_90) h10 rfl rfl ?_
      obtain ⟨r_91, E_r_91, h⟩ := bind_some h
      refine g_callF (m := 0) (al := false) (r := (Enc.enc (r_91 : Int))) (fs := [(.agg [(Enc.enc (cost_3.fs.1.a : List Int))])]) (env := []) (us := [Enc.enc (cost_3.fs.1 : (S1 (List Int)))]) (ws := []) rfl (erases_cons (Enc.erase_enc (cost_3.fs.1 : (S1 (List Int)))) erases_nil) erases_nil rfl [Enc.enc (set_36 : Int), Enc.enc (e_90 : Int)] (ta_cons (v := (.int .i64 set_36)) rfl rfl rfl (ta_cons (v := (.int .i64 e_90)) rfl rfl rfl ta_nil)) (H.c94 _ _ _ _ E_r_91) H.g94 rfl rfl rfl rfl ?_
      refine g_v1 (t := 1) (u := (Enc.enc (best_2 : List Int))) (Enc.enc (best_2 : List Int)) h1 rfl rfl ?_
      refine g_v1 (t := 8) (u := (.int .i64 set_36)) (.int .i64 set_36) h8 rfl rfl ?_
      refine g_v1 (t := 10) (u := (.int .i64 e_90)) (.int .i64 e_90) h10 rfl rfl ?_
      obtain ⟨q_92, E_q_92, h⟩ := bind_some h
      refine g_v (.int .i64 q_92) (ev_shl rfl rfl E_q_92) ?_
      refine g_v2 (t1 := 30) (t2 := 32) (u1 := (.int .i64 set_36)) (u2 := (.int .i64 q_92)) (.int .i64 (ior .i64 set_36 q_92)) rfl rfl rfl rfl ?_
      obtain ⟨e_93, E_e_93, h⟩ := bind_some h
      refine g_v (.ref .sh 0 [] (.int .i64 e_93)) (ev_idx (t := .sh) (lo := 0) (xs := best_2) rfl rfl E_e_93 rfl rfl) ?_
      refine g_v1 (t := 34) (u := (.ref .sh 0 [] (.int .i64 e_93))) (.int .i64 e_93) rfl rfl rfl ?_
      refine g_v2 (t1 := 28) (t2 := 35) (u1 := (.int .i64 r_91)) (u2 := (.int .i64 e_93)) (.int .i64 (if e_93 > r_91 then e_93 else r_91)) rfl rfl rfl rfl ?_
      refine g_v1 (t := 1) (u := (Enc.enc (best_2 : List Int))) (Enc.enc (best_2 : List Int)) h1 rfl rfl ?_
      obtain ⟨e_94, E_e_94, h⟩ := bind_some h
      refine g_v (.ref .sh 0 [] (.int .i64 e_94)) (ev_idx (t := .sh) (lo := 0) (xs := best_2) rfl rfl E_e_94 rfl rfl) ?_
      refine g_v1 (t := 38) (u := (.ref .sh 0 [] (.int .i64 e_94))) (.int .i64 e_94) rfl rfl rfl ?_
      refine g_v2 (t1 := 36) (t2 := 39) (u1 := (.int .i64 (if e_93 > r_91 then e_93 else r_91))) (u2 := (.int .i64 e_94)) (.bool (decide ((if e_93 > r_91 then e_93 else r_91) ≤ e_94))) rfl rfl rfl rfl ?_
      refine g_end ?_
      refine e_end ?_
      refine renew [(1, (Enc.enc (best_2 : List Int))), (2, (.fn 94 [(.agg [(Enc.enc (cost_3.fs.1.a : List Int))])] [])), (3, (.ref (.bx 3) 0 [] (.agg [(Enc.enc (w_1.a : List Int))]))), (6, (.sl .nl (Enc.shp Int) 0 [])), (7, (encO (.at 7 []) (order_35 : NL Int))), (8, (.int .i64 set_36)), (10, (.int .i64 e_90)), (19, (Enc.enc (r_70 : List Int))), (20, (.int .i64 (r_70.length : Int))), (21, (.int .i64 t21_80)), (40, (.bool (decide ((if e_93 > r_91 then e_93 else r_91) ≤ e_94))))] ⟨h1, h2, h3, h6, h7, h8, h10, h19, h20, h21, rfl⟩ ?_
      rintro s ⟨h1, h2, h3, h6, h7, h8, h10, h19, h20, h21, h40⟩
      refine .nsq ?_
      refine run_cond (t := decide ((if e_93 > r_91 then e_93 else r_91) ≤ e_94)) h40 h (fun h => ?_) (fun h => ?_)
      · refine .seq ?_
        refine run_reg ?_
        refine e_clr ?_
        refine e_end ?_
        refine g_v (encO (.at 7 []) (order_35 : NL Int)) (ev_mov (keep_clear (s := s) (pk := [43, 44]) h7 rfl (map_encO (r := 7) (p := []) rfl rfl)) ok_encO) ?_
        refine g_v1 (t := 10) (u := (.int .i64 e_90)) (.int .i64 e_90) (keep_clear (s := s) (pk := [43, 44]) h10 rfl rfl) rfl rfl ?_
        refine g_litL [(42, (.int .i64 e_90))] [Enc.enc (e_90 : Int)] rfl rfl rfl (gone_clear (s := s) (pk := [43, 44]) (t := 43) rfl) ?_
        obtain ⟨ap_97, E_ap_97, h⟩ := bind_some h
        refine g_app (q := 7) (p := []) (o := (order_35 : NL Int)) (ys := ([e_90] : List Int)) (t2 := (.at 43 [])) (lo2 := 0) rfl rfl rfl (gone_clear (s := s) (pk := [43, 44]) (t := 44) rfl) (appN_L (o := (order_35 : NL Int)) E_ap_97 (by split <;> simp)) (fun s_54 ha_54 => ?_)
        refine g_v1 (t := 44) (u := (encO (.at 44 []) (.of (ap_97 : List Int)))) (encO (.at 44 []) (.of (ap_97 : List Int))) rfl rfl rfl ?_
        refine g_end ?_
        refine e_home (r := 44) (x := 7) (v := (encO (.at 44 []) (.of (ap_97 : List Int)))) (by exact rfl) rfl (fun s_55 hg_55 => ?_)
        refine e_end ?_
        refine renew [(1, (Enc.enc (best_2 : List Int))), (2, (.fn 94 [(.agg [(Enc.enc (cost_3.fs.1.a : List Int))])] [])), (3, (.ref (.bx 3) 0 [] (.agg [(Enc.enc (w_1.a : List Int))]))), (6, (.sl .nl (Enc.shp Int) 0 [])), (7, (encO (.at 7 []) (.of (ap_97 : List Int)))), (8, (.int .i64 set_36)), (10, (.int .i64 e_90)), (19, (Enc.enc (r_70 : List Int))), (20, (.int .i64 (r_70.length : Int))), (21, (.int .i64 t21_80))] ⟨(hg_55 1 (Enc.enc (best_2 : List Int)) (Enc.enc (best_2 : List Int)) (show s_54 1 = (Enc.enc (best_2 : List Int)) from keep_app ha_54 (keep_clear (s := s) (pk := [43, 44]) h1 rfl (Enc.map_enc _ (best_2 : List Int))) (Enc.map_enc _ (best_2 : List Int))) (Enc.map_enc _ (best_2 : List Int))), (hg_55 2 (.fn 94 [(.agg [(Enc.enc (cost_3.fs.1.a : List Int))])] []) (.fn 94 [(.agg [(Enc.enc (cost_3.fs.1.a : List Int))])] []) (show s_54 2 = (.fn 94 [(.agg [(Enc.enc (cost_3.fs.1.a : List Int))])] []) from keep_app ha_54 (keep_clear (s := s) (pk := [43, 44]) h2 rfl (map_fn (maps_cons (map_agg (maps_cons (Enc.map_enc _ (cost_3.fs.1.a : List Int)) maps_nil)) maps_nil) maps_nil)) (map_fn (maps_cons (map_agg (maps_cons (Enc.map_enc _ (cost_3.fs.1.a : List Int)) maps_nil)) maps_nil) maps_nil)) (map_fn (maps_cons (map_agg (maps_cons (Enc.map_enc _ (cost_3.fs.1.a : List Int)) maps_nil)) maps_nil) maps_nil)), (hg_55 3 (.ref (.bx 3) 0 [] (.agg [(Enc.enc (w_1.a : List Int))])) (.ref (.bx 3) 0 [] (.agg [(Enc.enc (w_1.a : List Int))])) (show s_54 3 = (.ref (.bx 3) 0 [] (.agg [(Enc.enc (w_1.a : List Int))])) from keep_app ha_54 (keep_clear (s := s) (pk := [43, 44]) h3 rfl (map_bx rfl (map_agg (maps_cons (Enc.map_enc _ (w_1.a : List Int)) maps_nil)))) (map_bx rfl (map_agg (maps_cons (Enc.map_enc _ (w_1.a : List Int)) maps_nil)))) (map_bx rfl (map_agg (maps_cons (Enc.map_enc _ (w_1.a : List Int)) maps_nil)))), (hg_55 6 (.sl .nl (Enc.shp Int) 0 []) (.sl .nl (Enc.shp Int) 0 []) (show s_54 6 = (.sl .nl (Enc.shp Int) 0 []) from keep_app ha_54 (keep_clear (s := s) (pk := [43, 44]) h6 rfl rfl) rfl) rfl), (hg_55 7 (encO (.at 44 []) (.of (ap_97 : List Int))) (encO (.at 7 []) (.of (ap_97 : List Int))) rfl (map_encO (r := 44) (p := []) rfl rfl)), (hg_55 8 (.int .i64 set_36) (.int .i64 set_36) (show s_54 8 = (.int .i64 set_36) from keep_app ha_54 (keep_clear (s := s) (pk := [43, 44]) h8 rfl rfl) rfl) rfl), (hg_55 10 (.int .i64 e_90) (.int .i64 e_90) (show s_54 10 = (.int .i64 e_90) from keep_app ha_54 (keep_clear (s := s) (pk := [43, 44]) h10 rfl rfl) rfl) rfl), (hg_55 19 (Enc.enc (r_70 : List Int)) (Enc.enc (r_70 : List Int)) (show s_54 19 = (Enc.enc (r_70 : List Int)) from keep_app ha_54 (keep_clear (s := s) (pk := [43, 44]) h19 rfl (Enc.map_enc _ (r_70 : List Int))) (Enc.map_enc _ (r_70 : List Int))) (Enc.map_enc _ (r_70 : List Int))), (hg_55 20 (.int .i64 (r_70.length : Int)) (.int .i64 (r_70.length : Int)) (show s_54 20 = (.int .i64 (r_70.length : Int)) from keep_app ha_54 (keep_clear (s := s) (pk := [43, 44]) h20 rfl rfl) rfl) rfl), (hg_55 21 (.int .i64 t21_80) (.int .i64 t21_80) (show s_54 21 = (.int .i64 t21_80) from keep_app ha_54 (keep_clear (s := s) (pk := [43, 44]) h21 rfl rfl) rfl) rfl)⟩ ?_
        rintro s ⟨h1, h2, h3, h6, h7, h8, h10, h19, h20, h21⟩
        refine .nsq ?_
        refine .seq ?_
        refine run_reg ?_
        refine e_end ?_
        refine g_v1 (t := 8) (u := (.int .i64 set_36)) (.int .i64 set_36) h8 rfl rfl ?_
        refine g_v1 (t := 10) (u := (.int .i64 e_90)) (.int .i64 e_90) h10 rfl rfl ?_
        obtain ⟨q_98, E_q_98, h⟩ := bind_some h
        refine g_v (.int .i64 q_98) (ev_shl rfl rfl E_q_98) ?_
        refine g_v2 (t1 := 45) (t2 := 47) (u1 := (.int .i64 set_36)) (u2 := (.int .i64 q_98)) (.int .i64 (ior .i64 set_36 q_98)) rfl rfl rfl rfl ?_
        refine g_v1 (t := 48) (u := (.int .i64 (ior .i64 set_36 q_98))) (.int .i64 (ior .i64 set_36 q_98)) rfl rfl rfl ?_
        refine g_end ?_
        refine e_end ?_
        refine renew [(1, (Enc.enc (best_2 : List Int))), (2, (.fn 94 [(.agg [(Enc.enc (cost_3.fs.1.a : List Int))])] [])), (3, (.ref (.bx 3) 0 [] (.agg [(Enc.enc (w_1.a : List Int))]))), (6, (.sl .nl (Enc.shp Int) 0 [])), (7, (encO (.at 7 []) (.of (ap_97 : List Int)))), (8, (.int .i64 (ior .i64 set_36 q_98))), (19, (Enc.enc (r_70 : List Int))), (20, (.int .i64 (r_70.length : Int))), (21, (.int .i64 t21_80))] ⟨h1, h2, h3, h6, h7, rfl, h19, h20, h21⟩ ?_
        rintro s ⟨h1, h2, h3, h6, h7, h8, h19, h20, h21⟩
        refine .nsq ?_
        refine .exit ?_
        refine .ebn (by decide) ?_
        refine .esq ?_
        refine .elp ?_
        refine .ebk ?_
        refine .nbk ?_
        refine .nlp ?_
        exact Hc1 (.of ap_97) (ior .i64 set_36 q_98) _ ⟨h1, h2, h3, h6, h7, h8⟩ h
      · refine .skip ?_
        refine .nbk ?_
        refine .nsq ?_
        refine run_reg ?_
        refine e_end ?_
        refine g_v1 (t := 21) (u := (.int .i64 t21_80)) (.int .i64 (w64 (t21_80 + 1))) h21 rfl rfl ?_
        refine g_v1 (t := 49) (u := (.int .i64 (w64 (t21_80 + 1)))) (.int .i64 (w64 (t21_80 + 1))) rfl rfl rfl ?_
        refine g_end ?_
        refine e_end ?_
        refine renew [(1, (Enc.enc (best_2 : List Int))), (2, (.fn 94 [(.agg [(Enc.enc (cost_3.fs.1.a : List Int))])] [])), (3, (.ref (.bx 3) 0 [] (.agg [(Enc.enc (w_1.a : List Int))]))), (6, (.sl .nl (Enc.shp Int) 0 [])), (7, (encO (.at 7 []) (order_35 : NL Int))), (8, (.int .i64 set_36)), (19, (Enc.enc (r_70 : List Int))), (20, (.int .i64 (r_70.length : Int))), (21, (.int .i64 (w64 (t21_80 + 1))))] ⟨h1, h2, h3, h6, h7, h8, h19, h20, rfl⟩ ?_
        rintro s ⟨h1, h2, h3, h6, h7, h8, h19, h20, h21⟩
        refine .nlp ?_
        exact ih (w64 (t21_80 + 1)) _ ⟨h1, h2, h3, h6, h7, h8, h19, h20, h21⟩ h
    · refine .exit ?_
      refine .esq ?_
      refine .elp ?_
      refine .ebk ?_
      refine .nbk ?_
      refine .nlp ?_
      exact Hc1 order_35 set_36 _ ⟨h1, h2, h3, h6, h7, h8⟩ h
def i_net_firstOrder_of_i_net_eliminated_o_l2 (F : Nat) (best_2 : (List Int)) (cost_3 : (Cl 94 ((S1 (List Int)) × Unit) Unit)) (w_1 : (S1 (List Int)))  : Nat → (NL Int) → Int → Option (NL Int)
  | 0, _, _ => none
  | k + 1, order_35, set_36 =>
    (i_net_all F w_1).bind fun r_68 =>
    bif (set_36 != r_68) then
      (i_net_all F w_1).bind fun r_69 =>
      (i_setOf F (iandNot .i64 r_69 set_36)).bind fun r_70 =>
      i_net_firstOrder_of_i_net_eliminated_o_l1 F best_2 cost_3 w_1 order_35 set_36 r_70 (i_net_firstOrder_of_i_net_eliminated_o_l2 F best_2 cost_3 w_1 k) F 0
    else
      some order_35
theorem t_f89s2o_l2 (H : H89s2o D σ F) (best_2 : (List Int)) (cost_3 : (Cl 94 ((S1 (List Int)) × Unit) Unit)) (w_1 : (S1 (List Int)))  : ∀ (k : Nat) (order_35 : (NL Int)) (set_36 : Int) (s : Nat → V), Facts [(1, (Enc.enc (best_2 : List Int))), (2, (.fn 94 [(.agg [(Enc.enc (cost_3.fs.1.a : List Int))])] [])), (3, (.ref (.bx 3) 0 [] (.agg [(Enc.enc (w_1.a : List Int))]))), (6, (.sl .nl (Enc.shp Int) 0 [])), (7, (encO (.at 7 []) (order_35 : NL Int))), (8, (.int .i64 set_36))] s → i_net_firstOrder_of_i_net_eliminated_o_l2 F best_2 cost_3 w_1 k order_35 set_36 = some r → Run D σ (R89s2o r) (.run A89s2o_1 [.lp A89s2o_1, .bk 0, .sq A89s2o_12]) s := by
  intro k
  induction k with
  | zero => intro order_35 set_36 s _ h; exact nomatch (h : (none : Option _) = some r)
  | succ k ih =>
    intro order_35 set_36 s hs h
    rw [i_net_firstOrder_of_i_net_eliminated_o_l2] at h
    obtain ⟨h1, h2, h3, h6, h7, h8⟩ := hs
    refine .seq ?_
    refine .seq ?_
    refine run_reg ?_
    refine e_end ?_
    refine g_v1 (t := 8) (u := (.int .i64 set_36)) (.int .i64 set_36) h8 rfl rfl ?_
    refine g_v1 (t := 3) (u := (.ref (.bx 3) 0 [] (.agg [(Enc.enc (w_1.a : List Int))]))) (.agg [(Enc.enc (w_1.a : List Int))]) h3 rfl rfl ?_
    obtain ⟨r_68, E_r_68, h⟩ := bind_some h
    refine g_call (m := 0) (al := false) (r := (Enc.enc (r_68 : Int))) [Enc.enc (w_1 : (S1 (List Int)))] (ta_cons (v := (.agg [(Enc.enc (w_1.a : List Int))])) rfl rfl (Enc.erase_enc (w_1 : (S1 (List Int)))) ta_nil) (H.c59 _ _ E_r_68) H.g59 rfl rfl rfl rfl ?_
    refine g_v2 (t1 := 11) (t2 := 13) (u1 := (.int .i64 set_36)) (u2 := (.int .i64 r_68)) (.bool (set_36 != r_68)) rfl rfl rfl rfl ?_
    refine g_end ?_
    refine e_end ?_
    refine renew [(1, (Enc.enc (best_2 : List Int))), (2, (.fn 94 [(.agg [(Enc.enc (cost_3.fs.1.a : List Int))])] [])), (3, (.ref (.bx 3) 0 [] (.agg [(Enc.enc (w_1.a : List Int))]))), (6, (.sl .nl (Enc.shp Int) 0 [])), (7, (encO (.at 7 []) (order_35 : NL Int))), (8, (.int .i64 set_36)), (14, (.bool (set_36 != r_68)))] ⟨h1, h2, h3, h6, h7, h8, rfl⟩ ?_
    rintro s ⟨h1, h2, h3, h6, h7, h8, h14⟩
    refine .nsq ?_
    refine run_cond (t := (set_36 != r_68)) h14 h (fun h => ?_) (fun h => ?_)
    · refine .skip ?_
      refine .nsq ?_
      refine .block ?_
      refine .seq ?_
      refine run_reg ?_
      refine e_end ?_
      refine g_v1 (t := 3) (u := (.ref (.bx 3) 0 [] (.agg [(Enc.enc (w_1.a : List Int))]))) (.agg [(Enc.enc (w_1.a : List Int))]) h3 rfl rfl ?_
      obtain ⟨r_69, E_r_69, h⟩ := bind_some h
      refine g_call (m := 0) (al := false) (r := (Enc.enc (r_69 : Int))) [Enc.enc (w_1 : (S1 (List Int)))] (ta_cons (v := (.agg [(Enc.enc (w_1.a : List Int))])) rfl rfl (Enc.erase_enc (w_1 : (S1 (List Int)))) ta_nil) (H.c59 _ _ E_r_69) H.g59 rfl rfl rfl rfl ?_
      refine g_v1 (t := 8) (u := (.int .i64 set_36)) (.int .i64 set_36) h8 rfl rfl ?_
      refine g_v2 (t1 := 16) (t2 := 17) (u1 := (.int .i64 r_69)) (u2 := (.int .i64 set_36)) (.int .i64 (iandNot .i64 r_69 set_36)) rfl rfl rfl rfl ?_
      obtain ⟨r_70, E_r_70, h⟩ := bind_some h
      refine g_call (m := 0) (al := false) (r := (Enc.enc (r_70 : (List Int)))) [Enc.enc (iandNot .i64 r_69 set_36 : Int)] (ta_cons (v := (.int .i64 (iandNot .i64 r_69 set_36))) rfl rfl rfl ta_nil) (H.c60 _ _ E_r_70) H.g60 rfl rfl rfl rfl ?_
      refine g_v (.int .i64 (r_70.length : Int)) (ev_len (xs := r_70) rfl) ?_
      refine g_v0 (.int .i64 0) rfl rfl ?_
      refine g_end ?_
      refine e_end ?_
      refine renew [(1, (Enc.enc (best_2 : List Int))), (2, (.fn 94 [(.agg [(Enc.enc (cost_3.fs.1.a : List Int))])] [])), (3, (.ref (.bx 3) 0 [] (.agg [(Enc.enc (w_1.a : List Int))]))), (6, (.sl .nl (Enc.shp Int) 0 [])), (7, (encO (.at 7 []) (order_35 : NL Int))), (8, (.int .i64 set_36)), (19, (Enc.enc (r_70 : List Int))), (20, (.int .i64 (r_70.length : Int))), (21, (.int .i64 0))] ⟨h1, h2, h3, h6, h7, h8, rfl, rfl, rfl⟩ ?_
      rintro s ⟨h1, h2, h3, h6, h7, h8, h19, h20, h21⟩
      refine .nsq ?_
      refine .block ?_
      refine .loop ?_
      exact t_f89s2o_l1 H best_2 cost_3 w_1 order_35 set_36 r_70 (i_net_firstOrder_of_i_net_eliminated_o_l2 F best_2 cost_3 w_1 k) ih F 0 _ ⟨h1, h2, h3, h6, h7, h8, h19, h20, h21⟩ h
    · refine .exit ?_
      refine .esq ?_
      refine .elp ?_
      refine .ebk ?_
      refine .nsq ?_
      refine .seq ?_
      refine run_reg ?_
      refine e_end ?_
      refine g_v (encO (.at 7 []) (order_35 : NL Int)) (ev_mov h7 ok_encO) ?_
      refine g_v (encO (.at 7 []) (order_35 : NL Int)) (ev_mov rfl ok_encO) ?_
      refine g_end ?_
      refine e_home (r := 7) (x := 6) (v := (encO (.at 7 []) (order_35 : NL Int))) (by exact rfl) ok_encO (fun s_56 hg_56 => ?_)
      refine e_end ?_
      refine renew [(6, (encO (.at 6 []) (order_35 : NL Int)))] (hg_56 6 (encO (.at 7 []) (order_35 : NL Int)) (encO (.at 6 []) (order_35 : NL Int)) rfl (map_encO (r := 7) (p := []) rfl rfl)) ?_
      rintro s h6
      refine .nsq ?_
      refine .ret ?_
      have hr := Option.some.inj h
      subst hr
      exact rrA (res_tmp h6) (fin_retO (finO_own (o := (order_35 : NL Int))) rfl (mine_own rfl))
def i_net_firstOrder_of_i_net_eliminated_o (F : Nat) (w_1 : (S1 (List Int))) (best_2 : (List Int)) (cost_3 : (Cl 94 ((S1 (List Int)) × Unit) Unit)) : Option (NL Int) :=
  i_net_firstOrder_of_i_net_eliminated_o_l2 F best_2 cost_3 w_1 F .nil 0
theorem t89s2o (H : H89s2o D σ F) (w_1 : (S1 (List Int))) (best_2 : (List Int)) (cost_3 : (Cl 94 ((S1 (List Int)) × Unit) Unit)) (s : Nat → V) (hs : Facts [(0, (.agg [(Enc.enc (w_1.a : List Int))])), (1, (Enc.enc (best_2 : List Int))), (2, (.fn 94 [(.agg [(Enc.enc (cost_3.fs.1.a : List Int))])] []))] s) (h : i_net_firstOrder_of_i_net_eliminated_o F w_1 best_2 cost_3 = some r) : Run D σ (R89s2o r) (.run A89s2o []) s := by
  unfold i_net_firstOrder_of_i_net_eliminated_o at h
  obtain ⟨h0, h1, h2⟩ := hs
  refine .seq ?_
  refine run_reg ?_
  refine e_clr ?_
  refine e_end ?_
  refine g_box (.agg [(Enc.enc (w_1.a : List Int))]) (rd_of (keep_clear (s := s) (pk := [3]) h0 rfl (map_agg (maps_cons (Enc.map_enc _ (w_1.a : List Int)) maps_nil))) rfl) (gone_clear (s := s) (pk := [3]) (t := 3) rfl) rfl ?_
  refine g_v0 (.sl .nl (Enc.shp Int) 0 []) rfl rfl ?_
  refine g_end ?_
  refine e_end ?_
  refine renew [(1, (Enc.enc (best_2 : List Int))), (2, (.fn 94 [(.agg [(Enc.enc (cost_3.fs.1.a : List Int))])] [])), (3, (.ref (.bx 3) 0 [] (.agg [(Enc.enc (w_1.a : List Int))]))), (6, (.sl .nl (Enc.shp Int) 0 []))] ⟨(keep_clear (s := s) (pk := [3]) h1 rfl (Enc.map_enc _ (best_2 : List Int))), (keep_clear (s := s) (pk := [3]) h2 rfl (map_fn (maps_cons (map_agg (maps_cons (Enc.map_enc _ (cost_3.fs.1.a : List Int)) maps_nil)) maps_nil) maps_nil)), rfl, rfl⟩ ?_
  rintro s ⟨h1, h2, h3, h6⟩
  refine .nsq ?_
  refine .seq ?_
  refine run_reg ?_
  refine e_end ?_
  refine g_v0 (.sl .nl (Enc.shp Int) 0 []) rfl rfl ?_
  refine g_end ?_
  refine e_end ?_
  refine renew [(1, (Enc.enc (best_2 : List Int))), (2, (.fn 94 [(.agg [(Enc.enc (cost_3.fs.1.a : List Int))])] [])), (3, (.ref (.bx 3) 0 [] (.agg [(Enc.enc (w_1.a : List Int))]))), (6, (.sl .nl (Enc.shp Int) 0 [])), (7, (.sl .nl (Enc.shp Int) 0 []))] ⟨h1, h2, h3, h6, rfl⟩ ?_
  rintro s ⟨h1, h2, h3, h6, h7⟩
  refine .nsq ?_
  refine .seq ?_
  refine .seq ?_
  refine run_reg ?_
  refine e_end ?_
  refine g_v0 (.int .i64 0) rfl rfl ?_
  refine g_end ?_
  refine e_end ?_
  refine renew [(1, (Enc.enc (best_2 : List Int))), (2, (.fn 94 [(.agg [(Enc.enc (cost_3.fs.1.a : List Int))])] [])), (3, (.ref (.bx 3) 0 [] (.agg [(Enc.enc (w_1.a : List Int))]))), (6, (.sl .nl (Enc.shp Int) 0 [])), (7, (.sl .nl (Enc.shp Int) 0 [])), (8, (.int .i64 0))] ⟨h1, h2, h3, h6, h7, rfl⟩ ?_
  rintro s ⟨h1, h2, h3, h6, h7, h8⟩
  refine .nsq ?_
  refine .block ?_
  refine .loop ?_
  exact t_f89s2o_l2 H best_2 cost_3 w_1 F .nil 0 _ ⟨h1, h2, h3, h6, h7, h8⟩ h
end
def e89s2o (F : Nat) : Ent := ⟨1000000089, da (fun (x : ((S1 (List Int)) × (List Int) × (Cl 94 ((S1 (List Int)) × Unit) Unit) × Unit)) => i_net_firstOrder_of_i_net_eliminated_o F x.1 x.2.1 x.2.2.1) (fun (r : (NL Int)) => (encO .sh (r : NL Int))), 1, false, selF [(2, 94)]⟩
theorem p89s2o {F : Nat} {x0 : (S1 (List Int))} {x1 : (List Int)} {x2 : (Cl 94 ((S1 (List Int)) × Unit) Unit)} {r : (NL Int)} (h : i_net_firstOrder_of_i_net_eliminated_o F x0 x1 x2 = some r) : (e89s2o F).den [Enc.enc x0, Enc.enc x1, Arg.arg x2] = some (encO .sh (r : NL Int)) := da_put (f := fun (x : ((S1 (List Int)) × (List Int) × (Cl 94 ((S1 (List Int)) × Unit) Unit) × Unit)) => i_net_firstOrder_of_i_net_eliminated_o F x.1 x.2.1 x.2.2.1) (t := fun (r : (NL Int)) => (encO .sh (r : NL Int))) (x0, x1, x2, ()) h
theorem o89s2o {D : Den} {σ : Sig} {F : Nat} (hF : Fits2 Try.prog D σ) (H : H89s2o D σ F) : (e89s2o F).Ok Try.prog := by
  refine ok_of (f := 89) (show unk 1000000089 = 89 from rfl) (fun args r h => ?_) ⟨Try.f89, Try.func89, rfl, rfl⟩
  obtain ⟨⟨x0, x1, x2, _⟩, y, rfl, hy, rfl⟩ := da_open h
  exact contract_run hF (by kernel_rfl) Try.func89 rfl c89s2o (show 3 ≤ Try.f89.ntmps by decide) (t89s2o H x0 x1 x2 _ ⟨rfl, rfl, rfl⟩ hy)
/- loop.example/g01109/impl.BestElimination -/
def A46o_2 : AC := (.cond (.t 7) (.seq (.reg [] [(.mk (some 2) none false (.v (.mov (.k (.sl .nl .s 0 []))))), (.mk (some 3) none false (.v (.mov (.k (.bool false)))))] []) .ret) .skip)
def A46o_4 : AC := (.seq (.reg [.clr [15]] [(.mk (some 10) none false (.v (.load (.ag [.p]) (.t 4)))), (.mk (some 11) none false (.v (.load (.ag [.p]) (.t 4)))), (.mk (some 12) none false (.call (.k (.fn 93 [] [])) [(.t 11)])), (.mk (some 13) none false (.v (.load (.ag [.p]) (.t 4)))), (.mk (some 14) none false (.v (.fn 94 [(.t 13)] []))), (.mk (some 15) none false (.callO (.k (.fn 89 [] [])) [(.t 10), (.t 12), (.t 14)])), (.mk (some 2) none false (.v (.mov (.t 15)))), (.mk (some 3) none false (.v (.mov (.k (.bool true)))))] [.home 15 2]) .ret)
def A46o_3 : AC := (.seq (.reg [.clr [4]] [(.mk (some 8) none false (.v (.load (.ag [.s, .p]) (.t 1)))), (.mk (some 9) none false (.call (.k (.fn 52 [] [])) [(.t 8)])), (.mk (some 4) none false (.alloc (.agg [(.sl .nl .s 0 [])]))), (.mk none none false (.store (.ag [.p]) (.t 4) (.t 9)))] []) A46o_4)
def A46o_1 : AC := (.seq (.seq (.reg [] [(.mk (some 5) none false (.v (.load (.ag [.s, .p]) (.t 1)))), (.mk (some 6) none false (.call (.k (.fn 51 [] [])) [(.t 5)])), (.mk (some 7) none false (.v (.un .not (.t 6))))] []) A46o_2) A46o_3)
def A46o : AC := (.seq (.reg [.clr [1]] [(.mk (some 1) none false (.box (.t 0))), (.mk (some 2) none false (.v (.mov (.k (.sl .nl .s 0 []))))), (.mk (some 3) none false (.v (.mov (.k (.bool false)))))] []) A46o_1)
def an46o : List An := [{ id := 0, pre := [.clr [1]], ep := [], lin := [], sp := [] }, { id := 3, pre := [.clr [4]], ep := [], lin := [], sp := [] }, { id := 4, pre := [.clr [15]], ep := [.home 15 2], lin := [], sp := [1005] }]
theorem c46o : cC Try.prog Try.f46.ntmps an46o (Try.f46.body.getD .skip) = some A46o := by kernel_rfl
structure H46o (D : Den) (σ : Sig) (F : Nat) : Prop where
  c51 : ∀ (x0 : (Int × (List (Int × Int)))) r, i_IsGraph F x0 = some r → D 51 [Enc.enc x0] = some (Enc.enc (r : Bool))
  g51 : σ 51 = some (0, false)
  c52 : ∀ (x0 : (Int × (List (Int × Int)))) r, i_netOf F x0 = some r → D 52 [Enc.enc x0] = some (Enc.enc (r : (S1 (List Int))))
  g52 : σ 52 = some (0, false)
  c93 : ∀ (x0 : (S1 (List Int))) r, i_net_elimination F x0 = some r → D 93 [Enc.enc x0] = some (Enc.enc (r : (List Int)))
  g93 : σ 93 = some (0, true)
  c89s2o : ∀ (x0 : (S1 (List Int))) (x1 : (List Int)) (x2 : (Cl 94 ((S1 (List Int)) × Unit) Unit)) r, i_net_firstOrder_of_i_net_eliminated_o F x0 x1 x2 = some r → D 1000000089 [Enc.enc x0, Enc.enc x1, Arg.arg x2] = some (encO .sh (r : NL Int))
  g89s2o : σ 1000000089 = some (1, false)
abbrev R46o (r : ((NL Int) × Bool)) : (Nat → V) → Prop := RR Try.prog [.tmp 2, .tmp 3] 1 false (.tup [(encO .sh (r.1 : NL Int)), (Enc.enc (r.2 : Bool))])
section
variable {D : Den} {σ : Sig} {F : Nat} {r : ((NL Int) × Bool)}
def i_BestElimination_o (F : Nat) (g_1 : (Int × (List (Int × Int)))) : Option ((NL Int) × Bool) :=
  (i_IsGraph F g_1).bind fun r_2 =>
  bif (!r_2) then
    some (.nil, false)
  else
    (i_netOf F g_1).bind fun r_3 =>
    (i_net_elimination F r_3).bind fun r_4 =>
    (i_net_firstOrder_of_i_net_eliminated_o F r_3 r_4 (Cl.mk (r_3, ()) () : (Cl 94 ((S1 (List Int)) × Unit) Unit))).bind fun r_5 =>
    some (r_5, true)
theorem t46o (H : H46o D σ F) (g_1 : (Int × (List (Int × Int)))) (s : Nat → V) (hs : Facts [(0, (.agg [(.int .i64 g_1.1), (Enc.enc (g_1.2 : List (Int × Int)))]))] s) (h : i_BestElimination_o F g_1 = some r) : Run D σ (R46o r) (.run A46o []) s := by
  unfold i_BestElimination_o at h
  have h0 := hs
  refine .seq ?_
  refine run_reg ?_
  refine e_clr ?_
  refine e_end ?_
  refine g_box (.agg [(.int .i64 g_1.1), (Enc.enc (g_1.2 : List (Int × Int)))]) (rd_of (keep_clear (s := s) (pk := [1]) h0 rfl (map_agg (maps_cons rfl (maps_cons (Enc.map_enc _ (g_1.2 : List (Int × Int))) maps_nil)))) rfl) (gone_clear (s := s) (pk := [1]) (t := 1) rfl) rfl ?_
  refine g_v0 (.sl .nl (Enc.shp Int) 0 []) rfl rfl ?_
  refine g_v0 (.bool false) rfl rfl ?_
  refine g_end ?_
  refine e_end ?_
  refine renew [(1, (.ref (.bx 1) 0 [] (.agg [(.int .i64 g_1.1), (Enc.enc (g_1.2 : List (Int × Int)))]))), (2, (.sl .nl (Enc.shp Int) 0 [])), (3, (.bool false))] ⟨rfl, rfl, rfl⟩ ?_
  rintro s ⟨h1, h2, h3⟩
  refine .nsq ?_
  refine .seq ?_
  refine .seq ?_
  refine run_reg ?_
  refine e_end ?_
  refine g_v1 (t := 1) (u := (.ref (.bx 1) 0 [] (.agg [(.int .i64 g_1.1), (Enc.enc (g_1.2 : List (Int × Int)))]))) (.agg [(.int .i64 g_1.1), (Enc.enc (g_1.2 : List (Int × Int)))]) h1 rfl rfl ?_
  obtain ⟨r_2, E_r_2, h⟩ := bind_some h
  refine g_call (m := 0) (al := false) (r := (Enc.enc (r_2 : Bool))) [Enc.enc (g_1 : (Int × (List (Int × Int))))] (ta_cons (v := (.agg [(.int .i64 g_1.1), (Enc.enc (g_1.2 : List (Int × Int)))])) rfl rfl (Enc.erase_enc (g_1 : (Int × (List (Int × Int))))) ta_nil) (H.c51 _ _ E_r_2) H.g51 rfl rfl rfl rfl ?_
  refine g_v1 (t := 6) (u := (.bool r_2)) (.bool (!r_2)) rfl rfl rfl ?_
  refine g_end ?_
  refine e_end ?_
  refine renew [(1, (.ref (.bx 1) 0 [] (.agg [(.int .i64 g_1.1), (Enc.enc (g_1.2 : List (Int × Int)))]))), (2, (.sl .nl (Enc.shp Int) 0 [])), (3, (.bool false)), (7, (.bool (!r_2)))] ⟨h1, h2, h3, rfl⟩ ?_
  rintro s ⟨h1, h2, h3, h7⟩
  refine .nsq ?_
  refine run_cond (t := (!r_2)) h7 h (fun h => ?_) (fun h => ?_)
  · refine .seq ?_
    refine run_reg ?_
    refine e_end ?_
    refine g_v0 (.sl .nl (Enc.shp Int) 0 []) rfl rfl ?_
    refine g_v0 (.bool false) rfl rfl ?_
    refine g_end ?_
    refine e_end ?_
    refine renew [(1, (.ref (.bx 1) 0 [] (.agg [(.int .i64 g_1.1), (Enc.enc (g_1.2 : List (Int × Int)))]))), (2, (.sl .nl (Enc.shp Int) 0 [])), (3, (.bool false))] ⟨h1, rfl, rfl⟩ ?_
    rintro s ⟨h1, h2, h3⟩
    refine .nsq ?_
    refine .ret ?_
    have hr := Option.some.inj h
    subst hr
    exact rrB (res_tmp h2) (res_tmp h3) (fin_retO (finO_tup (finOs_cons (finO_nil (α := Int)) (finOs_cons finO_bool finOs_nil))) rfl (mine_tup (mines_cons mine_nil (mines_cons rfl mines_nil))))
  · refine .skip ?_
    refine .nsq ?_
    refine .seq ?_
    refine run_reg ?_
    refine e_clr ?_
    refine e_end ?_
    refine g_v1 (t := 1) (u := (.ref (.bx 1) 0 [] (.agg [(.int .i64 g_1.1), (Enc.enc (g_1.2 : List (Int × Int)))]))) (.agg [(.int .i64 g_1.1), (Enc.enc (g_1.2 : List (Int × Int)))]) (keep_clear (s := s) (pk := [4]) h1 rfl (map_bx rfl (map_agg (maps_cons rfl (maps_cons (Enc.map_enc _ (g_1.2 : List (Int × Int))) maps_nil))))) rfl rfl ?_
    obtain ⟨r_3, E_r_3, h⟩ := bind_some h
    refine g_call (m := 0) (al := false) (r := (Enc.enc (r_3 : (S1 (List Int))))) [Enc.enc (g_1 : (Int × (List (Int × Int))))] (ta_cons (v := (.agg [(.int .i64 g_1.1), (Enc.enc (g_1.2 : List (Int × Int)))])) rfl rfl (Enc.erase_enc (g_1 : (Int × (List (Int × Int))))) ta_nil) (H.c52 _ _ E_r_3) H.g52 rfl rfl rfl rfl ?_
    refine g_alloc (gone_clear (s := s) (pk := [4]) (t := 4) rfl) ?_
    refine g_store (.agg [(Enc.enc (r_3.a : List Int))]) (rd_of rfl rfl) (rd_of rfl rfl) (by refine ⟨by decide, by decide, rfl, rfl, rfl, ?_⟩; first | rfl | simp [V.toks, V.tokss, Enc.toks_enc]) ?_
    refine g_end ?_
    refine e_end ?_
    refine renew [(2, (.sl .nl (Enc.shp Int) 0 [])), (3, (.bool false)), (4, (.ref (.bx 4) 0 [] (.agg [(Enc.enc (r_3.a : List Int))])))] ⟨(keep_mut (keep_clear (s := s) (pk := [4]) h2 rfl rfl) rfl), (keep_mut (keep_clear (s := s) (pk := [4]) h3 rfl rfl) rfl), (keep_mut rfl rfl)⟩ ?_
    rintro s ⟨h2, h3, h4⟩
    refine .nsq ?_
    refine .seq ?_
    refine run_reg ?_
    refine e_clr ?_
    refine e_end ?_
    refine g_v1 (t := 4) (u := (.ref (.bx 4) 0 [] (.agg [(Enc.enc (r_3.a : List Int))]))) (.agg [(Enc.enc (r_3.a : List Int))]) (keep_clear (s := s) (pk := [15]) h4 rfl (map_bx rfl (map_agg (maps_cons (Enc.map_enc _ (r_3.a : List Int)) maps_nil)))) rfl rfl ?_
    refine g_v1 (t := 4) (u := (.ref (.bx 4) 0 [] (.agg [(Enc.enc (r_3.a : List Int))]))) (.agg [(Enc.enc (r_3.a : List Int))]) (keep_clear (s := s) (pk := [15]) h4 rfl (map_bx rfl (map_agg (maps_cons (Enc.map_enc _ (r_3.a : List Int)) maps_nil)))) rfl rfl ?_
    obtain ⟨r_4, E_r_4, h⟩ := bind_some h
    refine g_call (m := 0) (al := true) (r := (Enc.enc (r_4 : (List Int)))) [Enc.enc (r_3 : (S1 (List Int)))] (ta_cons (v := (.agg [(Enc.enc (r_3.a : List Int))])) rfl rfl (Enc.erase_enc (r_3 : (S1 (List Int)))) ta_nil) (H.c93 _ _ E_r_4) H.g93 (hal_of (ht_cons (v := (.agg [(Enc.enc (r_3.a : List Int))])) rfl rfl rfl ht_nil)) rfl rfl rfl ?_
    refine g_v1 (t := 4) (u := (.ref (.bx 4) 0 [] (.agg [(Enc.enc (r_3.a : List Int))]))) (.agg [(Enc.enc (r_3.a : List Int))]) (keep_clear (s := s) (pk := [15]) h4 rfl (map_bx rfl (map_agg (maps_cons (Enc.map_enc _ (r_3.a : List Int)) maps_nil)))) rfl rfl ?_
    refine g_v1 (t := 13) (u := (.agg [(Enc.enc (r_3.a : List Int))])) (.fn 94 [(.agg [(Enc.enc (r_3.a : List Int))])] []) rfl rfl rfl ?_
    obtain ⟨r_5, E_r_5, h⟩ := bind_some h
    refine g_callO (m := 1) (al := false) (r := (encO .sh (r_5 : NL Int))) (v := (encO (.at 15 []) (r_5 : NL Int))) (kk := 1000000089) [Enc.enc (r_3 : (S1 (List Int))), Enc.enc (r_4 : (List Int)), Arg.arg ((Cl.mk (r_3, ()) () : (Cl 94 ((S1 (List Int)) × Unit) Unit)) : (Cl 94 ((S1 (List Int)) × Unit) Unit))] (ta_cons (v := (.agg [(Enc.enc (r_3.a : List Int))])) rfl rfl (Enc.erase_enc (r_3 : (S1 (List Int)))) (ta_cons (v := (Enc.enc (r_4 : List Int))) rfl rfl (Enc.erase_enc (r_4 : (List Int))) (ta_cons (v := (.fn 94 [(.agg [(Enc.enc (r_3.a : List Int))])] [])) rfl rfl (erase_fn (erases_cons (Enc.erase_enc (r_3 : (S1 (List Int)))) erases_nil) erases_nil) ta_nil))) (H.c89s2o _ _ _ _ E_r_5) H.g89s2o rfl toks_encS tag_encO ok_encP (gone_clear (s := s) (pk := [15]) (t := 15) rfl) ?_
    refine g_v (encO (.at 15 []) (r_5 : NL Int)) (ev_mov rfl ok_encO) ?_
    refine g_v0 (.bool true) rfl rfl ?_
    refine g_end ?_
    refine e_home (r := 15) (x := 2) (v := (encO (.at 15 []) (r_5 : NL Int))) (by exact rfl) ok_encO (fun s_4 hg_4 => ?_)
    refine e_end ?_
    refine renew [(2, (encO (.at 2 []) (r_5 : NL Int))), (3, (.bool true))] ⟨(hg_4 2 (encO (.at 15 []) (r_5 : NL Int)) (encO (.at 2 []) (r_5 : NL Int)) rfl (map_encO (r := 15) (p := []) rfl rfl)), (hg_4 3 (.bool true) (.bool true) rfl rfl)⟩ ?_
    rintro s ⟨h2, h3⟩
    refine .nsq ?_
    refine .ret ?_
    have hr := Option.some.inj h
    subst hr
    exact rrB (res_tmp h2) (res_tmp h3) (fin_retO (finO_tup (finOs_cons (finO_own (o := (r_5 : NL Int))) (finOs_cons finO_bool finOs_nil))) rfl (mine_tup (mines_cons (mine_own rfl) (mines_cons rfl mines_nil))))
end
def e46o (F : Nat) : Ent := ⟨1000000046, da (fun (x : ((Int × (List (Int × Int))) × Unit)) => i_BestElimination_o F x.1) (fun (r : ((NL Int) × Bool)) => (.tup [(encO .sh (r.1 : NL Int)), (Enc.enc (r.2 : Bool))])), 1, false, selF []⟩
theorem p46o {F : Nat} {x0 : (Int × (List (Int × Int)))} {r : ((NL Int) × Bool)} (h : i_BestElimination_o F x0 = some r) : (e46o F).den [Enc.enc x0] = some (.tup [(encO .sh (r.1 : NL Int)), (Enc.enc (r.2 : Bool))]) := da_put (f := fun (x : ((Int × (List (Int × Int))) × Unit)) => i_BestElimination_o F x.1) (t := fun (r : ((NL Int) × Bool)) => (.tup [(encO .sh (r.1 : NL Int)), (Enc.enc (r.2 : Bool))])) (x0, ()) h
theorem o46o {D : Den} {σ : Sig} {F : Nat} (hF : Fits2 Try.prog D σ) (H : H46o D σ F) : (e46o F).Ok Try.prog := by
  refine ok_of (f := 46) (show unk 1000000046 = 46 from rfl) (fun args r h => ?_) ⟨Try.f46, Try.func46, rfl, rfl⟩
  obtain ⟨⟨x0, _⟩, y, rfl, hy, rfl⟩ := da_open h
  exact contract_run hF (by kernel_rfl) Try.func46 rfl c46o (show 1 ≤ Try.f46.ntmps by decide) (t46o H x0 _ rfl hy)
/- loop.example/g01109/laws.eqIntS -/
def A19_2 : AC := (.cond (.t 14) .skip (.exit 0))
def A19_4 : AC := (.cond (.t 25) (.seq (.reg [] [(.mk (some 4) none false (.v (.mov (.k (.bool false)))))] []) .ret) .skip)
def A19_5 : AC := (.reg [] [(.mk (some 15) none false (.v (.mov (.t 5)))), (.mk (some 16) none false (.v (.bin .add (.t 15) (.k (.int .i64 (.ofNat 1)))))), (.mk (some 5) none false (.v (.mov (.t 16))))] [])
def A19_3 : AC := (.seq (.block 1 (.seq (.reg [] [(.mk (some 17) none false (.v (.mov (.t 0)))), (.mk (some 18) none false (.v (.mov (.t 5)))), (.mk (some 19) none false (.v (.idx (.t 17) (.t 18) 1))), (.mk (some 20) none false (.v (.load .s (.t 19)))), (.mk (some 21) none false (.v (.mov (.t 1)))), (.mk (some 22) none false (.v (.mov (.t 5)))), (.mk (some 23) none false (.v (.idx (.t 21) (.t 22) 1))), (.mk (some 24) none false (.v (.load .s (.t 23)))), (.mk (some 25) none false (.v (.bin .neq (.t 20) (.t 24))))] []) A19_4)) A19_5)
def A19_1 : AC := (.seq (.seq (.reg [] [(.mk (some 11) none false (.v (.mov (.t 5)))), (.mk (some 12) none false (.v (.mov (.t 0)))), (.mk (some 13) none false (.v (.len (.t 12)))), (.mk (some 14) none false (.v (.bin .lss (.t 11) (.t 13))))] []) A19_2) A19_3)
def A19_6 : AC := (.seq (.reg [] [(.mk (some 4) none false (.v (.mov (.k (.bool true)))))] []) .ret)
def A19_8 : AC := (.cond (.t 10) (.seq (.reg [] [(.mk (some 4) none false (.v (.mov (.k (.bool false)))))] []) .ret) .skip)
def A19_10 : AC := (.block 0 (.loop A19_1))
def A19_9 : AC := (.seq (.seq (.reg [] [(.mk (some 5) none false (.v (.mov (.k (.int .i64 (.ofNat 0))))))] []) A19_10) A19_6)
def A19_7 : AC := (.seq (.seq (.reg [] [(.mk (some 6) none false (.v (.mov (.t 0)))), (.mk (some 7) none false (.v (.len (.t 6)))), (.mk (some 8) none false (.v (.mov (.t 1)))), (.mk (some 9) none false (.v (.len (.t 8)))), (.mk (some 10) none false (.v (.bin .neq (.t 7) (.t 9))))] []) A19_8) A19_9)
def A19 : AC := (.seq (.reg [] [(.mk (some 4) none false (.v (.mov (.k (.bool false)))))] []) A19_7)
def an19 : List An := []
theorem c19 : cC Try.prog Try.f19.ntmps an19 (Try.f19.body.getD .skip) = some A19 := by kernel_rfl
structure H19 (D : Den) (σ : Sig) (F : Nat) : Prop where
  mk ::
abbrev R19 (r : Bool) : (Nat → V) → Prop := RR Try.prog [.tmp 4] 0 false (Enc.enc (r : Bool))
section
variable {D : Den} {σ : Sig} {F : Nat} {r : Bool}
def w_eqIntS_l1 (F : Nat) (a_1 : (List Int)) (b_2 : (List Int))  : Nat → Int → Option Bool
  | 0, _ => none
  | k + 1, i_5 =>
    bif decide (i_5 < (a_1.length : Int)) then
      (idx a_1 i_5).bind fun e_8 =>
      (idx b_2 i_5).bind fun e_9 =>
      bif (e_8 != e_9) then
        some false
      else
        (w_eqIntS_l1 F a_1 b_2 k) (w64 (i_5 + 1))
    else
      some true
theorem t_f19_l1 (H : H19 D σ F) (a_1 : (List Int)) (b_2 : (List Int))  : ∀ (k : Nat) (i_5 : Int) (s : Nat → V), Facts [(0, (Enc.enc (a_1 : List Int))), (1, (Enc.enc (b_2 : List Int))), (4, (.bool false)), (5, (.int .i64 i_5))] s → w_eqIntS_l1 F a_1 b_2 k i_5 = some r → Run D σ (R19 r) (.run A19_1 [.lp A19_1, .bk 0, .sq A19_6]) s := by
  intro k
  induction k with
  | zero => intro i_5 s _ h; exact nomatch (h : (none : Option _) = some r)
  | succ k ih =>
    intro i_5 s hs h
    rw [w_eqIntS_l1] at h
    obtain ⟨h0, h1, h4, h5⟩ := hs
    refine .seq ?_
    refine .seq ?_
    refine run_reg ?_
    refine e_end ?_
    refine g_v1 (t := 5) (u := (.int .i64 i_5)) (.int .i64 i_5) h5 rfl rfl ?_
    refine g_v1 (t := 0) (u := (Enc.enc (a_1 : List Int))) (Enc.enc (a_1 : List Int)) h0 rfl rfl ?_
    refine g_v (.int .i64 (a_1.length : Int)) (ev_len (xs := a_1) rfl) ?_
    refine g_v2 (t1 := 11) (t2 := 13) (u1 := (.int .i64 i_5)) (u2 := (.int .i64 (a_1.length : Int))) (.bool (decide (i_5 < (a_1.length : Int)))) rfl rfl rfl rfl ?_
    refine g_end ?_
    refine e_end ?_
    refine renew [(0, (Enc.enc (a_1 : List Int))), (1, (Enc.enc (b_2 : List Int))), (4, (.bool false)), (5, (.int .i64 i_5)), (14, (.bool (decide (i_5 < (a_1.length : Int)))))] ⟨h0, h1, h4, h5, rfl⟩ ?_
    rintro s ⟨h0, h1, h4, h5, h14⟩
    refine .nsq ?_
    refine run_cond (t := decide (i_5 < (a_1.length : Int))) h14 h (fun h => ?_) (fun h => ?_)
    · refine .skip ?_
      refine .nsq ?_
      refine .seq ?_
      refine .block ?_
      refine .seq ?_
      refine run_reg ?_
      refine e_end ?_
      refine g_v1 (t := 0) (u := (Enc.enc (a_1 : List Int))) (Enc.enc (a_1 : List Int)) h0 rfl rfl ?_
      refine g_v1 (t := 5) (u := (.int .i64 i_5)) (.int .i64 i_5) h5 rfl rfl ?_
      obtain ⟨e_8, E_e_8, h⟩ := bind_some h
      refine g_v (.ref .sh 0 [] (.int .i64 e_8)) (ev_idx (t := .sh) (lo := 0) (xs := a_1) rfl rfl E_e_8 rfl rfl) ?_
      refine g_v1 (t := 19) (u := (.ref .sh 0 [] (.int .i64 e_8))) (.int .i64 e_8) rfl rfl rfl ?_
      refine g_v1 (t := 1) (u := (Enc.enc (b_2 : List Int))) (Enc.enc (b_2 : List Int)) h1 rfl rfl ?_
      refine g_v1 (t := 5) (u := (.int .i64 i_5)) (.int .i64 i_5) h5 rfl rfl ?_
      obtain ⟨e_9, E_e_9, h⟩ := bind_some h
      refine g_v (.ref .sh 0 [] (.int .i64 e_9)) (ev_idx (t := .sh) (lo := 0) (xs := b_2) rfl rfl E_e_9 rfl rfl) ?_
      refine g_v1 (t := 23) (u := (.ref .sh 0 [] (.int .i64 e_9))) (.int .i64 e_9) rfl rfl rfl ?_
      refine g_v2 (t1 := 20) (t2 := 24) (u1 := (.int .i64 e_8)) (u2 := (.int .i64 e_9)) (.bool (e_8 != e_9)) rfl rfl rfl rfl ?_
      refine g_end ?_
      refine e_end ?_
      refine renew [(0, (Enc.enc (a_1 : List Int))), (1, (Enc.enc (b_2 : List Int))), (4, (.bool false)), (5, (.int .i64 i_5)), (25, (.bool (e_8 != e_9)))] ⟨h0, h1, h4, h5, rfl⟩ ?_
      rintro s ⟨h0, h1, h4, h5, h25⟩
      refine .nsq ?_
      refine run_cond (t := (e_8 != e_9)) h25 h (fun h => ?_) (fun h => ?_)
      · refine .seq ?_
        refine run_reg ?_
        refine e_end ?_
        refine g_v0 (.bool false) rfl rfl ?_
        refine g_end ?_
        refine e_end ?_
        refine renew [(0, (Enc.enc (a_1 : List Int))), (1, (Enc.enc (b_2 : List Int))), (4, (.bool false)), (5, (.int .i64 i_5))] ⟨h0, h1, rfl, h5⟩ ?_
        rintro s ⟨h0, h1, h4, h5⟩
        refine .nsq ?_
        refine .ret ?_
        have hr := Option.some.inj h
        subst hr
        exact rrA (res_tmp h4) rfl
      · refine .skip ?_
        refine .nbk ?_
        refine .nsq ?_
        refine run_reg ?_
        refine e_end ?_
        refine g_v1 (t := 5) (u := (.int .i64 i_5)) (.int .i64 i_5) h5 rfl rfl ?_
        refine g_v1 (t := 15) (u := (.int .i64 i_5)) (.int .i64 (w64 (i_5 + 1))) rfl rfl rfl ?_
        refine g_v1 (t := 16) (u := (.int .i64 (w64 (i_5 + 1)))) (.int .i64 (w64 (i_5 + 1))) rfl rfl rfl ?_
        refine g_end ?_
        refine e_end ?_
        refine renew [(0, (Enc.enc (a_1 : List Int))), (1, (Enc.enc (b_2 : List Int))), (4, (.bool false)), (5, (.int .i64 (w64 (i_5 + 1))))] ⟨h0, h1, h4, rfl⟩ ?_
        rintro s ⟨h0, h1, h4, h5⟩
        refine .nlp ?_
        exact ih (w64 (i_5 + 1)) _ ⟨h0, h1, h4, h5⟩ h
    · refine .exit ?_
      refine .esq ?_
      refine .elp ?_
      refine .ebk ?_
      refine .nsq ?_
      refine .seq ?_
      refine run_reg ?_
      refine e_end ?_
      refine g_v0 (.bool true) rfl rfl ?_
      refine g_end ?_
      refine e_end ?_
      refine renew [(4, (.bool true))] rfl ?_
      rintro s h4
      refine .nsq ?_
      refine .ret ?_
      have hr := Option.some.inj h
      subst hr
      exact rrA (res_tmp h4) rfl
def w_eqIntS (F : Nat) (a_1 : (List Int)) (b_2 : (List Int)) : Option Bool :=
  bif ((a_1.length : Int) != (b_2.length : Int)) then
    some false
  else
    w_eqIntS_l1 F a_1 b_2 F 0
theorem t19 (H : H19 D σ F) (a_1 : (List Int)) (b_2 : (List Int)) (s : Nat → V) (hs : Facts [(0, (Enc.enc (a_1 : List Int))), (1, (Enc.enc (b_2 : List Int)))] s) (h : w_eqIntS F a_1 b_2 = some r) : Run D σ (R19 r) (.run A19 []) s := by
  unfold w_eqIntS at h
  obtain ⟨h0, h1⟩ := hs
  refine .seq ?_
  refine run_reg ?_
  refine e_end ?_
  refine g_v0 (.bool false) rfl rfl ?_
  refine g_end ?_
  refine e_end ?_
  refine renew [(0, (Enc.enc (a_1 : List Int))), (1, (Enc.enc (b_2 : List Int))), (4, (.bool false))] ⟨h0, h1, rfl⟩ ?_
  rintro s ⟨h0, h1, h4⟩
  refine .nsq ?_
  refine .seq ?_
  refine .seq ?_
  refine run_reg ?_
  refine e_end ?_
  refine g_v1 (t := 0) (u := (Enc.enc (a_1 : List Int))) (Enc.enc (a_1 : List Int)) h0 rfl rfl ?_
  refine g_v (.int .i64 (a_1.length : Int)) (ev_len (xs := a_1) rfl) ?_
  refine g_v1 (t := 1) (u := (Enc.enc (b_2 : List Int))) (Enc.enc (b_2 : List Int)) h1 rfl rfl ?_
  refine g_v (.int .i64 (b_2.length : Int)) (ev_len (xs := b_2) rfl) ?_
  refine g_v2 (t1 := 7) (t2 := 9) (u1 := (.int .i64 (a_1.length : Int))) (u2 := (.int .i64 (b_2.length : Int))) (.bool ((a_1.length : Int) != (b_2.length : Int))) rfl rfl rfl rfl ?_
  refine g_end ?_
  refine e_end ?_
  refine renew [(0, (Enc.enc (a_1 : List Int))), (1, (Enc.enc (b_2 : List Int))), (4, (.bool false)), (10, (.bool ((a_1.length : Int) != (b_2.length : Int))))] ⟨h0, h1, h4, rfl⟩ ?_
  rintro s ⟨h0, h1, h4, h10⟩
  refine .nsq ?_
  refine run_cond (t := ((a_1.length : Int) != (b_2.length : Int))) h10 h (fun h => ?_) (fun h => ?_)
  · refine .seq ?_
    refine run_reg ?_
    refine e_end ?_
    refine g_v0 (.bool false) rfl rfl ?_
    refine g_end ?_
    refine e_end ?_
    refine renew [(0, (Enc.enc (a_1 : List Int))), (1, (Enc.enc (b_2 : List Int))), (4, (.bool false))] ⟨h0, h1, rfl⟩ ?_
    rintro s ⟨h0, h1, h4⟩
    refine .nsq ?_
    refine .ret ?_
    have hr := Option.some.inj h
    subst hr
    exact rrA (res_tmp h4) rfl
  · refine .skip ?_
    refine .nsq ?_
    refine .seq ?_
    refine .seq ?_
    refine run_reg ?_
    refine e_end ?_
    refine g_v0 (.int .i64 0) rfl rfl ?_
    refine g_end ?_
    refine e_end ?_
    refine renew [(0, (Enc.enc (a_1 : List Int))), (1, (Enc.enc (b_2 : List Int))), (4, (.bool false)), (5, (.int .i64 0))] ⟨h0, h1, h4, rfl⟩ ?_
    rintro s ⟨h0, h1, h4, h5⟩
    refine .nsq ?_
    refine .block ?_
    refine .loop ?_
    exact t_f19_l1 H a_1 b_2 F 0 _ ⟨h0, h1, h4, h5⟩ h
end
def e19 (F : Nat) : Ent := ⟨19, da (fun (x : ((List Int) × (List Int) × Unit)) => w_eqIntS F x.1 x.2.1) (fun (r : Bool) => (Enc.enc (r : Bool))), 0, false, selF []⟩
theorem p19 {F : Nat} {x0 : (List Int)} {x1 : (List Int)} {r : Bool} (h : w_eqIntS F x0 x1 = some r) : (e19 F).den [Enc.enc x0, Enc.enc x1] = some (Enc.enc (r : Bool)) := da_put (f := fun (x : ((List Int) × (List Int) × Unit)) => w_eqIntS F x.1 x.2.1) (t := fun (r : Bool) => (Enc.enc (r : Bool))) (x0, x1, ()) h
theorem o19 {D : Den} {σ : Sig} {F : Nat} (hF : Fits2 Try.prog D σ) (H : H19 D σ F) : (e19 F).Ok Try.prog := by
  refine ok_of (f := 19) (show unk 19 = 19 from rfl) (fun args r h => ?_) ⟨Try.f19, Try.func19, rfl, rfl⟩
  obtain ⟨⟨x0, x1, _⟩, y, rfl, hy, rfl⟩ := da_open h
  exact contract_run hF (by kernel_rfl) Try.func19 rfl c19 (show 2 ≤ Try.f19.ntmps by decide) (t19 H x0 x1 _ ⟨rfl, rfl⟩ hy)
/- loop.example/g01109/laws.eqIntA2 -/
def A103_2 : AC := (.cond (.t 7) .skip (.exit 0))
def A103_4 : AC := (.cond (.t 16) (.seq (.reg [] [(.mk (some 4) none false (.v (.mov (.k (.bool false)))))] []) .ret) .skip)
def A103_5 : AC := (.reg [] [(.mk (some 8) none false (.v (.mov (.t 5)))), (.mk (some 9) none false (.v (.bin .add (.t 8) (.k (.int .i64 (.ofNat 1)))))), (.mk (some 5) none false (.v (.mov (.t 9))))] [])
def A103_3 : AC := (.seq (.block 1 (.seq (.reg [] [(.mk (some 10) none false (.v (.mov (.t 5)))), (.mk (some 11) none false (.v (.idxA (.t 2) (.t 10) 2 1))), (.mk (some 12) none false (.v (.load .s (.t 11)))), (.mk (some 13) none false (.v (.mov (.t 5)))), (.mk (some 14) none false (.v (.idxA (.t 3) (.t 13) 2 1))), (.mk (some 15) none false (.v (.load .s (.t 14)))), (.mk (some 16) none false (.v (.bin .neq (.t 12) (.t 15))))] []) A103_4)) A103_5)
def A103_1 : AC := (.seq (.seq (.reg [] [(.mk (some 6) none false (.v (.mov (.t 5)))), (.mk (some 7) none false (.v (.bin .lss (.t 6) (.k (.int .i64 (.ofNat 2))))))] []) A103_2) A103_3)
def A103_6 : AC := (.seq (.reg [] [(.mk (some 4) none false (.v (.mov (.k (.bool true)))))] []) .ret)
def A103_8 : AC := (.block 0 (.loop A103_1))
def A103_7 : AC := (.seq (.seq (.reg [] [(.mk (some 5) none false (.v (.mov (.k (.int .i64 (.ofNat 0))))))] []) A103_8) A103_6)
def A103 : AC := (.seq (.reg [.clr [2, 3]] [(.mk (some 2) none false (.box (.t 0))), (.mk (some 3) none false (.box (.t 1))), (.mk (some 4) none false (.v (.mov (.k (.bool false)))))] []) A103_7)
def an103 : List An := [{ id := 0, pre := [.clr [2, 3]], ep := [], lin := [], sp := [] }]
theorem c103 : cC Try.prog Try.f103.ntmps an103 (Try.f103.body.getD .skip) = some A103 := by kernel_rfl
structure H103 (D : Den) (σ : Sig) (F : Nat) : Prop where
  mk ::
abbrev R103 (r : Bool) : (Nat → V) → Prop := RR Try.prog [.tmp 4] 0 false (Enc.enc (r : Bool))
section
variable {D : Den} {σ : Sig} {F : Nat} {r : Bool}
def w_eqIntA2_l1 (F : Nat) (a_1 : (Int × Int)) (b_2 : (Int × Int))  : Nat → Int → Option Bool
  | 0, _ => none
  | k + 1, i_3 =>
    bif decide (i_3 < 2) then
      (idx [a_1.1, a_1.2] i_3).bind fun e_6 =>
      (idx [b_2.1, b_2.2] i_3).bind fun e_7 =>
      bif (e_6 != e_7) then
        some false
      else
        (w_eqIntA2_l1 F a_1 b_2 k) (w64 (i_3 + 1))
    else
      some true
theorem t_f103_l1 (H : H103 D σ F) (a_1 : (Int × Int)) (b_2 : (Int × Int))  : ∀ (k : Nat) (i_3 : Int) (s : Nat → V), Facts [(2, (.ref (.bx 2) 0 [] (.agg [(.int .i64 a_1.1), (.int .i64 a_1.2)]))), (3, (.ref (.bx 3) 0 [] (.agg [(.int .i64 b_2.1), (.int .i64 b_2.2)]))), (4, (.bool false)), (5, (.int .i64 i_3))] s → w_eqIntA2_l1 F a_1 b_2 k i_3 = some r → Run D σ (R103 r) (.run A103_1 [.lp A103_1, .bk 0, .sq A103_6]) s := by
  intro k
  induction k with
  | zero => intro i_3 s _ h; exact nomatch (h : (none : Option _) = some r)
  | succ k ih =>
    intro i_3 s hs h
    rw [w_eqIntA2_l1] at h
    obtain ⟨h2, h3, h4, h5⟩ := hs
    refine .seq ?_
    refine .seq ?_
    refine run_reg ?_
    refine e_end ?_
    refine g_v1 (t := 5) (u := (.int .i64 i_3)) (.int .i64 i_3) h5 rfl rfl ?_
    refine g_v1 (t := 6) (u := (.int .i64 i_3)) (.bool (decide (i_3 < 2))) rfl rfl rfl ?_
    refine g_end ?_
    refine e_end ?_
    refine renew [(2, (.ref (.bx 2) 0 [] (.agg [(.int .i64 a_1.1), (.int .i64 a_1.2)]))), (3, (.ref (.bx 3) 0 [] (.agg [(.int .i64 b_2.1), (.int .i64 b_2.2)]))), (4, (.bool false)), (5, (.int .i64 i_3)), (7, (.bool (decide (i_3 < 2))))] ⟨h2, h3, h4, h5, rfl⟩ ?_
    rintro s ⟨h2, h3, h4, h5, h7⟩
    refine .nsq ?_
    refine run_cond (t := decide (i_3 < 2)) h7 h (fun h => ?_) (fun h => ?_)
    · refine .skip ?_
      refine .nsq ?_
      refine .seq ?_
      refine .block ?_
      refine .seq ?_
      refine run_reg ?_
      refine e_end ?_
      refine g_v1 (t := 5) (u := (.int .i64 i_3)) (.int .i64 i_3) h5 rfl rfl ?_
      obtain ⟨e_6, E_e_6, h⟩ := bind_some h
      refine g_v (.ref (.bx 2) 0 [i_3.toNat] (.int .i64 e_6)) (ev_idxA (xs := [a_1.1, a_1.2]) (a := e_6) (n := i_3) (q := []) h2 rfl E_e_6 rfl rfl rfl) ?_
      refine g_v1 (t := 11) (u := (.ref (.bx 2) 0 [i_3.toNat] (.int .i64 e_6))) (.int .i64 e_6) rfl rfl rfl ?_
      refine g_v1 (t := 5) (u := (.int .i64 i_3)) (.int .i64 i_3) h5 rfl rfl ?_
      obtain ⟨e_7, E_e_7, h⟩ := bind_some h
      refine g_v (.ref (.bx 3) 0 [i_3.toNat] (.int .i64 e_7)) (ev_idxA (xs := [b_2.1, b_2.2]) (a := e_7) (n := i_3) (q := []) h3 rfl E_e_7 rfl rfl rfl) ?_
      refine g_v1 (t := 14) (u := (.ref (.bx 3) 0 [i_3.toNat] (.int .i64 e_7))) (.int .i64 e_7) rfl rfl rfl ?_
      refine g_v2 (t1 := 12) (t2 := 15) (u1 := (.int .i64 e_6)) (u2 := (.int .i64 e_7)) (.bool (e_6 != e_7)) rfl rfl rfl rfl ?_
      refine g_end ?_
      refine e_end ?_
      refine renew [(2, (.ref (.bx 2) 0 [] (.agg [(.int .i64 a_1.1), (.int .i64 a_1.2)]))), (3, (.ref (.bx 3) 0 [] (.agg [(.int .i64 b_2.1), (.int .i64 b_2.2)]))), (4, (.bool false)), (5, (.int .i64 i_3)), (16, (.bool (e_6 != e_7)))] ⟨h2, h3, h4, h5, rfl⟩ ?_
      rintro s ⟨h2, h3, h4, h5, h16⟩
      refine .nsq ?_
      refine run_cond (t := (e_6 != e_7)) h16 h (fun h => ?_) (fun h => ?_)
      · refine .seq ?_
        refine run_reg ?_
        refine e_end ?_
        refine g_v0 (.bool false) rfl rfl ?_
        refine g_end ?_
        refine e_end ?_
        refine renew [(2, (.ref (.bx 2) 0 [] (.agg [(.int .i64 a_1.1), (.int .i64 a_1.2)]))), (3, (.ref (.bx 3) 0 [] (.agg [(.int .i64 b_2.1), (.int .i64 b_2.2)]))), (4, (.bool false)), (5, (.int .i64 i_3))] ⟨h2, h3, rfl, h5⟩ ?_
        rintro s ⟨h2, h3, h4, h5⟩
        refine .nsq ?_
        refine .ret ?_
        have hr := Option.some.inj h
        subst hr
        exact rrA (res_tmp h4) rfl
      · refine .skip ?_
        refine .nbk ?_
        refine .nsq ?_
        refine run_reg ?_
        refine e_end ?_
        refine g_v1 (t := 5) (u := (.int .i64 i_3)) (.int .i64 i_3) h5 rfl rfl ?_
        refine g_v1 (t := 8) (u := (.int .i64 i_3)) (.int .i64 (w64 (i_3 + 1))) rfl rfl rfl ?_
        refine g_v1 (t := 9) (u := (.int .i64 (w64 (i_3 + 1)))) (.int .i64 (w64 (i_3 + 1))) rfl rfl rfl ?_
        refine g_end ?_
        refine e_end ?_
        refine renew [(2, (.ref (.bx 2) 0 [] (.agg [(.int .i64 a_1.1), (.int .i64 a_1.2)]))), (3, (.ref (.bx 3) 0 [] (.agg [(.int .i64 b_2.1), (.int .i64 b_2.2)]))), (4, (.bool false)), (5, (.int .i64 (w64 (i_3 + 1))))] ⟨h2, h3, h4, rfl⟩ ?_
        rintro s ⟨h2, h3, h4, h5⟩
        refine .nlp ?_
        exact ih (w64 (i_3 + 1)) _ ⟨h2, h3, h4, h5⟩ h
    · refine .exit ?_
      refine .esq ?_
      refine .elp ?_
      refine .ebk ?_
      refine .nsq ?_
      refine .seq ?_
      refine run_reg ?_
      refine e_end ?_
      refine g_v0 (.bool true) rfl rfl ?_
      refine g_end ?_
      refine e_end ?_
      refine renew [(4, (.bool true))] rfl ?_
      rintro s h4
      refine .nsq ?_
      refine .ret ?_
      have hr := Option.some.inj h
      subst hr
      exact rrA (res_tmp h4) rfl
def w_eqIntA2 (F : Nat) (a_1 : (Int × Int)) (b_2 : (Int × Int)) : Option Bool :=
  w_eqIntA2_l1 F a_1 b_2 F 0
theorem t103 (H : H103 D σ F) (a_1 : (Int × Int)) (b_2 : (Int × Int)) (s : Nat → V) (hs : Facts [(0, (.agg [(.int .i64 a_1.1), (.int .i64 a_1.2)])), (1, (.agg [(.int .i64 b_2.1), (.int .i64 b_2.2)]))] s) (h : w_eqIntA2 F a_1 b_2 = some r) : Run D σ (R103 r) (.run A103 []) s := by
  unfold w_eqIntA2 at h
  obtain ⟨h0, h1⟩ := hs
  refine .seq ?_
  refine run_reg ?_
  refine e_clr ?_
  refine e_end ?_
  refine g_box (.agg [(.int .i64 a_1.1), (.int .i64 a_1.2)]) (rd_of (keep_clear (s := s) (pk := [2, 3]) h0 rfl (map_agg (maps_cons rfl (maps_cons rfl maps_nil)))) rfl) (gone_clear (s := s) (pk := [2, 3]) (t := 2) rfl) rfl ?_
  refine g_box (.agg [(.int .i64 b_2.1), (.int .i64 b_2.2)]) (rd_of (keep_clear (s := s) (pk := [2, 3]) h1 rfl (map_agg (maps_cons rfl (maps_cons rfl maps_nil)))) rfl) (gone_clear (s := s) (pk := [2, 3]) (t := 3) rfl) rfl ?_
  refine g_v0 (.bool false) rfl rfl ?_
  refine g_end ?_
  refine e_end ?_
  refine renew [(2, (.ref (.bx 2) 0 [] (.agg [(.int .i64 a_1.1), (.int .i64 a_1.2)]))), (3, (.ref (.bx 3) 0 [] (.agg [(.int .i64 b_2.1), (.int .i64 b_2.2)]))), (4, (.bool false))] ⟨rfl, rfl, rfl⟩ ?_
  rintro s ⟨h2, h3, h4⟩
  refine .nsq ?_
  refine .seq ?_
  refine .seq ?_
  refine run_reg ?_
  refine e_end ?_
  refine g_v0 (.int .i64 0) rfl rfl ?_
  refine g_end ?_
  refine e_end ?_
  refine renew [(2, (.ref (.bx 2) 0 [] (.agg [(.int .i64 a_1.1), (.int .i64 a_1.2)]))), (3, (.ref (.bx 3) 0 [] (.agg [(.int .i64 b_2.1), (.int .i64 b_2.2)]))), (4, (.bool false)), (5, (.int .i64 0))] ⟨h2, h3, h4, rfl⟩ ?_
  rintro s ⟨h2, h3, h4, h5⟩
  refine .nsq ?_
  refine .block ?_
  refine .loop ?_
  exact t_f103_l1 H a_1 b_2 F 0 _ ⟨h2, h3, h4, h5⟩ h
end
def e103 (F : Nat) : Ent := ⟨103, da (fun (x : ((Int × Int) × (Int × Int) × Unit)) => w_eqIntA2 F x.1 x.2.1) (fun (r : Bool) => (Enc.enc (r : Bool))), 0, false, selF []⟩
theorem p103 {F : Nat} {x0 : (Int × Int)} {x1 : (Int × Int)} {r : Bool} (h : w_eqIntA2 F x0 x1 = some r) : (e103 F).den [Enc.enc x0, Enc.enc x1] = some (Enc.enc (r : Bool)) := da_put (f := fun (x : ((Int × Int) × (Int × Int) × Unit)) => w_eqIntA2 F x.1 x.2.1) (t := fun (r : Bool) => (Enc.enc (r : Bool))) (x0, x1, ()) h
theorem o103 {D : Den} {σ : Sig} {F : Nat} (hF : Fits2 Try.prog D σ) (H : H103 D σ F) : (e103 F).Ok Try.prog := by
  refine ok_of (f := 103) (show unk 103 = 103 from rfl) (fun args r h => ?_) ⟨Try.f103, Try.func103, rfl, rfl⟩
  obtain ⟨⟨x0, x1, _⟩, y, rfl, hy, rfl⟩ := da_open h
  exact contract_run hF (by kernel_rfl) Try.func103 rfl c103 (show 2 ≤ Try.f103.ntmps by decide) (t103 H x0 x1 _ ⟨rfl, rfl⟩ hy)
/- loop.example/g01109/laws.eqIntA2S -/
def A54_2 : AC := (.cond (.t 14) .skip (.exit 0))
def A54_4 : AC := (.cond (.t 26) (.seq (.reg [] [(.mk (some 4) none false (.v (.mov (.k (.bool false)))))] []) .ret) .skip)
def A54_5 : AC := (.reg [] [(.mk (some 15) none false (.v (.mov (.t 5)))), (.mk (some 16) none false (.v (.bin .add (.t 15) (.k (.int .i64 (.ofNat 1)))))), (.mk (some 5) none false (.v (.mov (.t 16))))] [])
def A54_3 : AC := (.seq (.block 1 (.seq (.reg [] [(.mk (some 17) none false (.v (.mov (.t 0)))), (.mk (some 18) none false (.v (.mov (.t 5)))), (.mk (some 19) none false (.v (.idx (.t 17) (.t 18) 2))), (.mk (some 20) none false (.v (.load (.ag [.s, .s]) (.t 19)))), (.mk (some 21) none false (.v (.mov (.t 1)))), (.mk (some 22) none false (.v (.mov (.t 5)))), (.mk (some 23) none false (.v (.idx (.t 21) (.t 22) 2))), (.mk (some 24) none false (.v (.load (.ag [.s, .s]) (.t 23)))), (.mk (some 25) none false (.call (.k (.fn 103 [] [])) [(.t 20), (.t 24)])), (.mk (some 26) none false (.v (.un .not (.t 25))))] []) A54_4)) A54_5)
def A54_1 : AC := (.seq (.seq (.reg [] [(.mk (some 11) none false (.v (.mov (.t 5)))), (.mk (some 12) none false (.v (.mov (.t 0)))), (.mk (some 13) none false (.v (.len (.t 12)))), (.mk (some 14) none false (.v (.bin .lss (.t 11) (.t 13))))] []) A54_2) A54_3)
def A54_6 : AC := (.seq (.reg [] [(.mk (some 4) none false (.v (.mov (.k (.bool true)))))] []) .ret)
def A54_8 : AC := (.cond (.t 10) (.seq (.reg [] [(.mk (some 4) none false (.v (.mov (.k (.bool false)))))] []) .ret) .skip)
def A54_10 : AC := (.block 0 (.loop A54_1))
def A54_9 : AC := (.seq (.seq (.reg [] [(.mk (some 5) none false (.v (.mov (.k (.int .i64 (.ofNat 0))))))] []) A54_10) A54_6)
def A54_7 : AC := (.seq (.seq (.reg [] [(.mk (some 6) none false (.v (.mov (.t 0)))), (.mk (some 7) none false (.v (.len (.t 6)))), (.mk (some 8) none false (.v (.mov (.t 1)))), (.mk (some 9) none false (.v (.len (.t 8)))), (.mk (some 10) none false (.v (.bin .neq (.t 7) (.t 9))))] []) A54_8) A54_9)
def A54 : AC := (.seq (.reg [] [(.mk (some 4) none false (.v (.mov (.k (.bool false)))))] []) A54_7)
def an54 : List An := []
theorem c54 : cC Try.prog Try.f54.ntmps an54 (Try.f54.body.getD .skip) = some A54 := by kernel_rfl
structure H54 (D : Den) (σ : Sig) (F : Nat) : Prop where
  c103 : ∀ (x0 : (Int × Int)) (x1 : (Int × Int)) r, w_eqIntA2 F x0 x1 = some r → D 103 [Enc.enc x0, Enc.enc x1] = some (Enc.enc (r : Bool))
  g103 : σ 103 = some (0, false)
abbrev R54 (r : Bool) : (Nat → V) → Prop := RR Try.prog [.tmp 4] 0 false (Enc.enc (r : Bool))
section
variable {D : Den} {σ : Sig} {F : Nat} {r : Bool}
def w_eqIntA2S_l1 (F : Nat) (a_1 : (List (Int × Int))) (b_2 : (List (Int × Int)))  : Nat → Int → Option Bool
  | 0, _ => none
  | k + 1, i_6 =>
    bif decide (i_6 < (a_1.length : Int)) then
      (idx a_1 i_6).bind fun e_10 =>
      (idx b_2 i_6).bind fun e_11 =>
      (w_eqIntA2 F e_10 e_11).bind fun r_12 =>
      bif (!r_12) then
        some false
      else
        (w_eqIntA2S_l1 F a_1 b_2 k) (w64 (i_6 + 1))
    else
      some true
theorem t_f54_l1 (H : H54 D σ F) (a_1 : (List (Int × Int))) (b_2 : (List (Int × Int)))  : ∀ (k : Nat) (i_6 : Int) (s : Nat → V), Facts [(0, (Enc.enc (a_1 : List (Int × Int)))), (1, (Enc.enc (b_2 : List (Int × Int)))), (4, (.bool false)), (5, (.int .i64 i_6))] s → w_eqIntA2S_l1 F a_1 b_2 k i_6 = some r → Run D σ (R54 r) (.run A54_1 [.lp A54_1, .bk 0, .sq A54_6]) s := by
  intro k
  induction k with
  | zero => intro i_6 s _ h; exact nomatch (h : (none : Option _) = some r)
  | succ k ih =>
    intro i_6 s hs h
    rw [w_eqIntA2S_l1] at h
    obtain ⟨h0, h1, h4, h5⟩ := hs
    refine .seq ?_
    refine .seq ?_
    refine run_reg ?_
    refine e_end ?_
    refine g_v1 (t := 5) (u := (.int .i64 i_6)) (.int .i64 i_6) h5 rfl rfl ?_
    refine g_v1 (t := 0) (u := (Enc.enc (a_1 : List (Int × Int)))) (Enc.enc (a_1 : List (Int × Int))) h0 rfl rfl ?_
    refine g_v (.int .i64 (a_1.length : Int)) (ev_len (xs := a_1) rfl) ?_
    refine g_v2 (t1 := 11) (t2 := 13) (u1 := (.int .i64 i_6)) (u2 := (.int .i64 (a_1.length : Int))) (.bool (decide (i_6 < (a_1.length : Int)))) rfl rfl rfl rfl ?_
    refine g_end ?_
    refine e_end ?_
    refine renew [(0, (Enc.enc (a_1 : List (Int × Int)))), (1, (Enc.enc (b_2 : List (Int × Int)))), (4, (.bool false)), (5, (.int .i64 i_6)), (14, (.bool (decide (i_6 < (a_1.length : Int)))))] ⟨h0, h1, h4, h5, rfl⟩ ?_
    rintro s ⟨h0, h1, h4, h5, h14⟩
    refine .nsq ?_
    refine run_cond (t := decide (i_6 < (a_1.length : Int))) h14 h (fun h => ?_) (fun h => ?_)
    · refine .skip ?_
      refine .nsq ?_
      refine .seq ?_
      refine .block ?_
      refine .seq ?_
      refine run_reg ?_
      refine e_end ?_
      refine g_v1 (t := 0) (u := (Enc.enc (a_1 : List (Int × Int)))) (Enc.enc (a_1 : List (Int × Int))) h0 rfl rfl ?_
      refine g_v1 (t := 5) (u := (.int .i64 i_6)) (.int .i64 i_6) h5 rfl rfl ?_
      obtain ⟨e_10, E_e_10, h⟩ := bind_some h
      refine g_v (.ref .sh 0 [] (.agg [(.int .i64 e_10.1), (.int .i64 e_10.2)])) (ev_idx (t := .sh) (lo := 0) (xs := a_1) rfl rfl E_e_10 rfl rfl) ?_
      refine g_v1 (t := 19) (u := (.ref .sh 0 [] (.agg [(.int .i64 e_10.1), (.int .i64 e_10.2)]))) (.agg [(.int .i64 e_10.1), (.int .i64 e_10.2)]) rfl rfl rfl ?_
      refine g_v1 (t := 1) (u := (Enc.enc (b_2 : List (Int × Int)))) (Enc.enc (b_2 : List (Int × Int))) h1 rfl rfl ?_
      refine g_v1 (t := 5) (u := (.int .i64 i_6)) (.int .i64 i_6) h5 rfl rfl ?_
      obtain ⟨e_11, E_e_11, h⟩ := bind_some h
      refine g_v (.ref .sh 0 [] (.agg [(.int .i64 e_11.1), (.int .i64 e_11.2)])) (ev_idx (t := .sh) (lo := 0) (xs := b_2) rfl rfl E_e_11 rfl rfl) ?_
      refine g_v1 (t := 23) (u := (.ref .sh 0 [] (.agg [(.int .i64 e_11.1), (.int .i64 e_11.2)]))) (.agg [(.int .i64 e_11.1), (.int .i64 e_11.2)]) rfl rfl rfl ?_
      obtain ⟨r_12, E_r_12, h⟩ := bind_some h
      refine g_call (m := 0) (al := false) (r := (Enc.enc (r_12 : Bool))) [Enc.enc (e_10 : (Int × Int)), Enc.enc (e_11 : (Int × Int))] (ta_cons (v := (.agg [(.int .i64 e_10.1), (.int .i64 e_10.2)])) rfl rfl (Enc.erase_enc (e_10 : (Int × Int))) (ta_cons (v := (.agg [(.int .i64 e_11.1), (.int .i64 e_11.2)])) rfl rfl (Enc.erase_enc (e_11 : (Int × Int))) ta_nil)) (H.c103 _ _ _ E_r_12) H.g103 rfl rfl rfl rfl ?_
      refine g_v1 (t := 25) (u := (.bool r_12)) (.bool (!r_12)) rfl rfl rfl ?_
      refine g_end ?_
      refine e_end ?_
      refine renew [(0, (Enc.enc (a_1 : List (Int × Int)))), (1, (Enc.enc (b_2 : List (Int × Int)))), (4, (.bool false)), (5, (.int .i64 i_6)), (26, (.bool (!r_12)))] ⟨h0, h1, h4, h5, rfl⟩ ?_
      rintro s ⟨h0, h1, h4, h5, h26⟩
      refine .nsq ?_
      refine run_cond (t := (!r_12)) h26 h (fun h => ?_) (fun h => ?_)
      · refine .seq ?_
        refine run_reg ?_
        refine e_end ?_
        refine g_v0 (.bool false) rfl rfl ?_
        refine g_end ?_
        refine e_end ?_
        refine renew [(0, (Enc.enc (a_1 : List (Int × Int)))), (1, (Enc.enc (b_2 : List (Int × Int)))), (4, (.bool false)), (5, (.int .i64 i_6))] ⟨h0, h1, rfl, h5⟩ ?_
        rintro s ⟨h0, h1, h4, h5⟩
        refine .nsq ?_
        refine .ret ?_
        have hr := Option.some.inj h
        subst hr
        exact rrA (res_tmp h4) rfl
      · refine .skip ?_
        refine .nbk ?_
        refine .nsq ?_
        refine run_reg ?_
        refine e_end ?_
        refine g_v1 (t := 5) (u := (.int .i64 i_6)) (.int .i64 i_6) h5 rfl rfl ?_
        refine g_v1 (t := 15) (u := (.int .i64 i_6)) (.int .i64 (w64 (i_6 + 1))) rfl rfl rfl ?_
        refine g_v1 (t := 16) (u := (.int .i64 (w64 (i_6 + 1)))) (.int .i64 (w64 (i_6 + 1))) rfl rfl rfl ?_
        refine g_end ?_
        refine e_end ?_
        refine renew [(0, (Enc.enc (a_1 : List (Int × Int)))), (1, (Enc.enc (b_2 : List (Int × Int)))), (4, (.bool false)), (5, (.int .i64 (w64 (i_6 + 1))))] ⟨h0, h1, h4, rfl⟩ ?_
        rintro s ⟨h0, h1, h4, h5⟩
        refine .nlp ?_
        exact ih (w64 (i_6 + 1)) _ ⟨h0, h1, h4, h5⟩ h
    · refine .exit ?_
      refine .esq ?_
      refine .elp ?_
      refine .ebk ?_
      refine .nsq ?_
      refine .seq ?_
      refine run_reg ?_
      refine e_end ?_
      refine g_v0 (.bool true) rfl rfl ?_
      refine g_end ?_
      refine e_end ?_
      refine renew [(4, (.bool true))] rfl ?_
      rintro s h4
      refine .nsq ?_
      refine .ret ?_
      have hr := Option.some.inj h
      subst hr
      exact rrA (res_tmp h4) rfl
def w_eqIntA2S (F : Nat) (a_1 : (List (Int × Int))) (b_2 : (List (Int × Int))) : Option Bool :=
  bif ((a_1.length : Int) != (b_2.length : Int)) then
    some false
  else
    w_eqIntA2S_l1 F a_1 b_2 F 0
theorem t54 (H : H54 D σ F) (a_1 : (List (Int × Int))) (b_2 : (List (Int × Int))) (s : Nat → V) (hs : Facts [(0, (Enc.enc (a_1 : List (Int × Int)))), (1, (Enc.enc (b_2 : List (Int × Int))))] s) (h : w_eqIntA2S F a_1 b_2 = some r) : Run D σ (R54 r) (.run A54 []) s := by
  unfold w_eqIntA2S at h
  obtain ⟨h0, h1⟩ := hs
  refine .seq ?_
  refine run_reg ?_
  refine e_end ?_
  refine g_v0 (.bool false) rfl rfl ?_
  refine g_end ?_
  refine e_end ?_
  refine renew [(0, (Enc.enc (a_1 : List (Int × Int)))), (1, (Enc.enc (b_2 : List (Int × Int)))), (4, (.bool false))] ⟨h0, h1, rfl⟩ ?_
  rintro s ⟨h0, h1, h4⟩
  refine .nsq ?_
  refine .seq ?_
  refine .seq ?_
  refine run_reg ?_
  refine e_end ?_
  refine g_v1 (t := 0) (u := (Enc.enc (a_1 : List (Int × Int)))) (Enc.enc (a_1 : List (Int × Int))) h0 rfl rfl ?_
  refine g_v (.int .i64 (a_1.length : Int)) (ev_len (xs := a_1) rfl) ?_
  refine g_v1 (t := 1) (u := (Enc.enc (b_2 : List (Int × Int)))) (Enc.enc (b_2 : List (Int × Int))) h1 rfl rfl ?_
  refine g_v (.int .i64 (b_2.length : Int)) (ev_len (xs := b_2) rfl) ?_
  refine g_v2 (t1 := 7) (t2 := 9) (u1 := (.int .i64 (a_1.length : Int))) (u2 := (.int .i64 (b_2.length : Int))) (.bool ((a_1.length : Int) != (b_2.length : Int))) rfl rfl rfl rfl ?_
  refine g_end ?_
  refine e_end ?_
  refine renew [(0, (Enc.enc (a_1 : List (Int × Int)))), (1, (Enc.enc (b_2 : List (Int × Int)))), (4, (.bool false)), (10, (.bool ((a_1.length : Int) != (b_2.length : Int))))] ⟨h0, h1, h4, rfl⟩ ?_
  rintro s ⟨h0, h1, h4, h10⟩
  refine .nsq ?_
  refine run_cond (t := ((a_1.length : Int) != (b_2.length : Int))) h10 h (fun h => ?_) (fun h => ?_)
  · refine .seq ?_
    refine run_reg ?_
    refine e_end ?_
    refine g_v0 (.bool false) rfl rfl ?_
    refine g_end ?_
    refine e_end ?_
    refine renew [(0, (Enc.enc (a_1 : List (Int × Int)))), (1, (Enc.enc (b_2 : List (Int × Int)))), (4, (.bool false))] ⟨h0, h1, rfl⟩ ?_
    rintro s ⟨h0, h1, h4⟩
    refine .nsq ?_
    refine .ret ?_
    have hr := Option.some.inj h
    subst hr
    exact rrA (res_tmp h4) rfl
  · refine .skip ?_
    refine .nsq ?_
    refine .seq ?_
    refine .seq ?_
    refine run_reg ?_
    refine e_end ?_
    refine g_v0 (.int .i64 0) rfl rfl ?_
    refine g_end ?_
    refine e_end ?_
    refine renew [(0, (Enc.enc (a_1 : List (Int × Int)))), (1, (Enc.enc (b_2 : List (Int × Int)))), (4, (.bool false)), (5, (.int .i64 0))] ⟨h0, h1, h4, rfl⟩ ?_
    rintro s ⟨h0, h1, h4, h5⟩
    refine .nsq ?_
    refine .block ?_
    refine .loop ?_
    exact t_f54_l1 H a_1 b_2 F 0 _ ⟨h0, h1, h4, h5⟩ h
end
def e54 (F : Nat) : Ent := ⟨54, da (fun (x : ((List (Int × Int)) × (List (Int × Int)) × Unit)) => w_eqIntA2S F x.1 x.2.1) (fun (r : Bool) => (Enc.enc (r : Bool))), 0, false, selF []⟩
theorem p54 {F : Nat} {x0 : (List (Int × Int))} {x1 : (List (Int × Int))} {r : Bool} (h : w_eqIntA2S F x0 x1 = some r) : (e54 F).den [Enc.enc x0, Enc.enc x1] = some (Enc.enc (r : Bool)) := da_put (f := fun (x : ((List (Int × Int)) × (List (Int × Int)) × Unit)) => w_eqIntA2S F x.1 x.2.1) (t := fun (r : Bool) => (Enc.enc (r : Bool))) (x0, x1, ()) h
theorem o54 {D : Den} {σ : Sig} {F : Nat} (hF : Fits2 Try.prog D σ) (H : H54 D σ F) : (e54 F).Ok Try.prog := by
  refine ok_of (f := 54) (show unk 54 = 54 from rfl) (fun args r h => ?_) ⟨Try.f54, Try.func54, rfl, rfl⟩
  obtain ⟨⟨x0, x1, _⟩, y, rfl, hy, rfl⟩ := da_open h
  exact contract_run hF (by kernel_rfl) Try.func54 rfl c54 (show 2 ≤ Try.f54.ntmps by decide) (t54 H x0 x1 _ ⟨rfl, rfl⟩ hy)
/- loop.example/g01109/laws.eqGraph -/
def A20_2 : AC := (.cond (.t 9) (.seq (.reg [] [(.mk (some 4) none false (.v (.mov (.k (.bool false)))))] []) .ret) .skip)
def A20_4 : AC := (.cond (.t 15) (.seq (.reg [] [(.mk (some 4) none false (.v (.mov (.k (.bool false)))))] []) .ret) .skip)
def A20_5 : AC := (.seq (.reg [] [(.mk (some 4) none false (.v (.mov (.k (.bool true)))))] []) .ret)
def A20_3 : AC := (.seq (.seq (.reg [] [(.mk (some 10) none false (.v (.fld (.t 2) 1 1))), (.mk (some 11) none false (.v (.load .p (.t 10)))), (.mk (some 12) none false (.v (.fld (.t 3) 1 1))), (.mk (some 13) none false (.v (.load .p (.t 12)))), (.mk (some 14) none false (.call (.k (.fn 54 [] [])) [(.t 11), (.t 13)])), (.mk (some 15) none false (.v (.un .not (.t 14))))] []) A20_4) A20_5)
def A20_1 : AC := (.seq (.seq (.reg [] [(.mk (some 5) none false (.v (.fld (.t 2) 0 0))), (.mk (some 6) none false (.v (.load .s (.t 5)))), (.mk (some 7) none false (.v (.fld (.t 3) 0 0))), (.mk (some 8) none false (.v (.load .s (.t 7)))), (.mk (some 9) none false (.v (.bin .neq (.t 6) (.t 8))))] []) A20_2) A20_3)
def A20 : AC := (.seq (.reg [.clr [2, 3]] [(.mk (some 2) none false (.box (.t 0))), (.mk (some 3) none false (.box (.t 1))), (.mk (some 4) none false (.v (.mov (.k (.bool false)))))] []) A20_1)
def an20 : List An := [{ id := 0, pre := [.clr [2, 3]], ep := [], lin := [], sp := [] }]
theorem c20 : cC Try.prog Try.f20.ntmps an20 (Try.f20.body.getD .skip) = some A20 := by kernel_rfl
structure H20 (D : Den) (σ : Sig) (F : Nat) : Prop where
  c54 : ∀ (x0 : (List (Int × Int))) (x1 : (List (Int × Int))) r, w_eqIntA2S F x0 x1 = some r → D 54 [Enc.enc x0, Enc.enc x1] = some (Enc.enc (r : Bool))
  g54 : σ 54 = some (0, false)
abbrev R20 (r : Bool) : (Nat → V) → Prop := RR Try.prog [.tmp 4] 0 false (Enc.enc (r : Bool))
section
variable {D : Den} {σ : Sig} {F : Nat} {r : Bool}
def w_eqGraph (F : Nat) (a_1 : (Int × (List (Int × Int)))) (b_2 : (Int × (List (Int × Int)))) : Option Bool :=
  bif (a_1.1 != b_2.1) then
    some false
  else
    (w_eqIntA2S F a_1.2 b_2.2).bind fun r_3 =>
    bif (!r_3) then
      some false
    else
      some true
theorem t20 (H : H20 D σ F) (a_1 : (Int × (List (Int × Int)))) (b_2 : (Int × (List (Int × Int)))) (s : Nat → V) (hs : Facts [(0, (.agg [(.int .i64 a_1.1), (Enc.enc (a_1.2 : List (Int × Int)))])), (1, (.agg [(.int .i64 b_2.1), (Enc.enc (b_2.2 : List (Int × Int)))]))] s) (h : w_eqGraph F a_1 b_2 = some r) : Run D σ (R20 r) (.run A20 []) s := by
  unfold w_eqGraph at h
  obtain ⟨h0, h1⟩ := hs
  refine .seq ?_
  refine run_reg ?_
  refine e_clr ?_
  refine e_end ?_
  refine g_box (.agg [(.int .i64 a_1.1), (Enc.enc (a_1.2 : List (Int × Int)))]) (rd_of (keep_clear (s := s) (pk := [2, 3]) h0 rfl (map_agg (maps_cons rfl (maps_cons (Enc.map_enc _ (a_1.2 : List (Int × Int))) maps_nil)))) rfl) (gone_clear (s := s) (pk := [2, 3]) (t := 2) rfl) rfl ?_
  refine g_box (.agg [(.int .i64 b_2.1), (Enc.enc (b_2.2 : List (Int × Int)))]) (rd_of (keep_clear (s := s) (pk := [2, 3]) h1 rfl (map_agg (maps_cons rfl (maps_cons (Enc.map_enc _ (b_2.2 : List (Int × Int))) maps_nil)))) rfl) (gone_clear (s := s) (pk := [2, 3]) (t := 3) rfl) rfl ?_
  refine g_v0 (.bool false) rfl rfl ?_
  refine g_end ?_
  refine e_end ?_
  refine renew [(2, (.ref (.bx 2) 0 [] (.agg [(.int .i64 a_1.1), (Enc.enc (a_1.2 : List (Int × Int)))]))), (3, (.ref (.bx 3) 0 [] (.agg [(.int .i64 b_2.1), (Enc.enc (b_2.2 : List (Int × Int)))]))), (4, (.bool false))] ⟨rfl, rfl, rfl⟩ ?_
  rintro s ⟨h2, h3, h4⟩
  refine .nsq ?_
  refine .seq ?_
  refine .seq ?_
  refine run_reg ?_
  refine e_end ?_
  refine g_v1 (t := 2) (u := (.ref (.bx 2) 0 [] (.agg [(.int .i64 a_1.1), (Enc.enc (a_1.2 : List (Int × Int)))]))) (.ref (.bx 2) 0 [0] (.int .i64 a_1.1)) h2 rfl rfl ?_
  refine g_v1 (t := 5) (u := (.ref (.bx 2) 0 [0] (.int .i64 a_1.1))) (.int .i64 a_1.1) rfl rfl rfl ?_
  refine g_v1 (t := 3) (u := (.ref (.bx 3) 0 [] (.agg [(.int .i64 b_2.1), (Enc.enc (b_2.2 : List (Int × Int)))]))) (.ref (.bx 3) 0 [0] (.int .i64 b_2.1)) h3 rfl rfl ?_
  refine g_v1 (t := 7) (u := (.ref (.bx 3) 0 [0] (.int .i64 b_2.1))) (.int .i64 b_2.1) rfl rfl rfl ?_
  refine g_v2 (t1 := 6) (t2 := 8) (u1 := (.int .i64 a_1.1)) (u2 := (.int .i64 b_2.1)) (.bool (a_1.1 != b_2.1)) rfl rfl rfl rfl ?_
  refine g_end ?_
  refine e_end ?_
  refine renew [(2, (.ref (.bx 2) 0 [] (.agg [(.int .i64 a_1.1), (Enc.enc (a_1.2 : List (Int × Int)))]))), (3, (.ref (.bx 3) 0 [] (.agg [(.int .i64 b_2.1), (Enc.enc (b_2.2 : List (Int × Int)))]))), (4, (.bool false)), (9, (.bool (a_1.1 != b_2.1)))] ⟨h2, h3, h4, rfl⟩ ?_
  rintro s ⟨h2, h3, h4, h9⟩
  refine .nsq ?_
  refine run_cond (t := (a_1.1 != b_2.1)) h9 h (fun h => ?_) (fun h => ?_)
  · refine .seq ?_
    refine run_reg ?_
    refine e_end ?_
    refine g_v0 (.bool false) rfl rfl ?_
    refine g_end ?_
    refine e_end ?_
    refine renew [(2, (.ref (.bx 2) 0 [] (.agg [(.int .i64 a_1.1), (Enc.enc (a_1.2 : List (Int × Int)))]))), (3, (.ref (.bx 3) 0 [] (.agg [(.int .i64 b_2.1), (Enc.enc (b_2.2 : List (Int × Int)))]))), (4, (.bool false))] ⟨h2, h3, rfl⟩ ?_
    rintro s ⟨h2, h3, h4⟩
    refine .nsq ?_
    refine .ret ?_
    have hr := Option.some.inj h
    subst hr
    exact rrA (res_tmp h4) rfl
  · refine .skip ?_
    refine .nsq ?_
    refine .seq ?_
    refine .seq ?_
    refine run_reg ?_
    refine e_end ?_
    refine g_v1 (t := 2) (u := (.ref (.bx 2) 0 [] (.agg [(.int .i64 a_1.1), (Enc.enc (a_1.2 : List (Int × Int)))]))) (.ref (.bx 2) 0 [1] (Enc.enc (a_1.2 : List (Int × Int)))) h2 rfl rfl ?_
    refine g_v1 (t := 10) (u := (.ref (.bx 2) 0 [1] (Enc.enc (a_1.2 : List (Int × Int))))) (Enc.enc (a_1.2 : List (Int × Int))) rfl rfl rfl ?_
    refine g_v1 (t := 3) (u := (.ref (.bx 3) 0 [] (.agg [(.int .i64 b_2.1), (Enc.enc (b_2.2 : List (Int × Int)))]))) (.ref (.bx 3) 0 [1] (Enc.enc (b_2.2 : List (Int × Int)))) h3 rfl rfl ?_
    refine g_v1 (t := 12) (u := (.ref (.bx 3) 0 [1] (Enc.enc (b_2.2 : List (Int × Int))))) (Enc.enc (b_2.2 : List (Int × Int))) rfl rfl rfl ?_
    obtain ⟨r_3, E_r_3, h⟩ := bind_some h
    refine g_call (m := 0) (al := false) (r := (Enc.enc (r_3 : Bool))) [Enc.enc (a_1.2 : (List (Int × Int))), Enc.enc (b_2.2 : (List (Int × Int)))] (ta_cons (v := (Enc.enc (a_1.2 : List (Int × Int)))) rfl rfl (Enc.erase_enc (a_1.2 : (List (Int × Int)))) (ta_cons (v := (Enc.enc (b_2.2 : List (Int × Int)))) rfl rfl (Enc.erase_enc (b_2.2 : (List (Int × Int)))) ta_nil)) (H.c54 _ _ _ E_r_3) H.g54 rfl rfl rfl rfl ?_
    refine g_v1 (t := 14) (u := (.bool r_3)) (.bool (!r_3)) rfl rfl rfl ?_
    refine g_end ?_
    refine e_end ?_
    refine renew [(4, (.bool false)), (15, (.bool (!r_3)))] ⟨h4, rfl⟩ ?_
    rintro s ⟨h4, h15⟩
    refine .nsq ?_
    refine run_cond (t := (!r_3)) h15 h (fun h => ?_) (fun h => ?_)
    · refine .seq ?_
      refine run_reg ?_
      refine e_end ?_
      refine g_v0 (.bool false) rfl rfl ?_
      refine g_end ?_
      refine e_end ?_
      refine renew [(4, (.bool false))] rfl ?_
      rintro s h4
      refine .nsq ?_
      refine .ret ?_
      have hr := Option.some.inj h
      subst hr
      exact rrA (res_tmp h4) rfl
    · refine .skip ?_
      refine .nsq ?_
      refine .seq ?_
      refine run_reg ?_
      refine e_end ?_
      refine g_v0 (.bool true) rfl rfl ?_
      refine g_end ?_
      refine e_end ?_
      refine renew [(4, (.bool true))] rfl ?_
      rintro s h4
      refine .nsq ?_
      refine .ret ?_
      have hr := Option.some.inj h
      subst hr
      exact rrA (res_tmp h4) rfl
end
def e20 (F : Nat) : Ent := ⟨20, da (fun (x : ((Int × (List (Int × Int))) × (Int × (List (Int × Int))) × Unit)) => w_eqGraph F x.1 x.2.1) (fun (r : Bool) => (Enc.enc (r : Bool))), 0, false, selF []⟩
theorem p20 {F : Nat} {x0 : (Int × (List (Int × Int)))} {x1 : (Int × (List (Int × Int)))} {r : Bool} (h : w_eqGraph F x0 x1 = some r) : (e20 F).den [Enc.enc x0, Enc.enc x1] = some (Enc.enc (r : Bool)) := da_put (f := fun (x : ((Int × (List (Int × Int))) × (Int × (List (Int × Int))) × Unit)) => w_eqGraph F x.1 x.2.1) (t := fun (r : Bool) => (Enc.enc (r : Bool))) (x0, x1, ()) h
theorem o20 {D : Den} {σ : Sig} {F : Nat} (hF : Fits2 Try.prog D σ) (H : H20 D σ F) : (e20 F).Ok Try.prog := by
  refine ok_of (f := 20) (show unk 20 = 20 from rfl) (fun args r h => ?_) ⟨Try.f20, Try.func20, rfl, rfl⟩
  obtain ⟨⟨x0, x1, _⟩, y, rfl, hy, rfl⟩ := da_open h
  exact contract_run hF (by kernel_rfl) Try.func20 rfl c20 (show 2 ≤ Try.f20.ntmps by decide) (t20 H x0 x1 _ ⟨rfl, rfl⟩ hy)
/- loop.example/g01109/laws.toIntA2S -/
def A50o_2 : AC := (.cond (.t 11) .skip (.exit 0))
def A50o_4 : AC := (.reg [] [(.mk (some 12) none false (.v (.mov (.t 4)))), (.mk (some 13) none false (.v (.bin .add (.t 12) (.k (.int .i64 (.ofNat 1)))))), (.mk (some 4) none false (.v (.mov (.t 13))))] [])
def A50o_3 : AC := (.seq (.block 1 (.reg [] [(.mk (some 14) none false (.v (.mov (.t 3)))), (.mk (some 15) none false (.v (.mov (.t 4)))), (.mk (some 16) none false (.v (.mov (.t 0)))), (.mk (some 17) none false (.v (.mov (.t 4)))), (.mk (some 18) none false (.v (.idx (.t 16) (.t 17) 2))), (.mk (some 19) none false (.v (.load (.ag [.s, .s]) (.t 18)))), (.mk (some 20) none false (.call (.k (.fn 99 [] [])) [(.t 19)])), (.mk (some 21) none false (.v (.idx (.t 14) (.t 15) 2))), (.mk none none false (.store (.ag [.s, .s]) (.t 21) (.t 20)))] [])) A50o_4)
def A50o_1 : AC := (.seq (.seq (.reg [] [(.mk (some 8) none false (.v (.mov (.t 4)))), (.mk (some 9) none false (.v (.mov (.t 0)))), (.mk (some 10) none false (.v (.len (.t 9)))), (.mk (some 11) none false (.v (.bin .lss (.t 8) (.t 10))))] []) A50o_2) A50o_3)
def A50o_5 : AC := (.seq (.reg [] [(.mk (some 22) none false (.v (.mov (.t 3)))), (.mk (some 2) none false (.v (.mov (.t 22))))] [.home 3 2]) .ret)
def A50o_8 : AC := (.block 0 (.loop A50o_1))
def A50o_7 : AC := (.seq (.seq (.reg [] [(.mk (some 4) none false (.v (.mov (.k (.int .i64 (.ofNat 0))))))] []) A50o_8) A50o_5)
def A50o_6 : AC := (.seq (.reg [.clr [7]] [(.mk (some 5) none false (.v (.mov (.t 0)))), (.mk (some 6) none false (.v (.len (.t 5)))), (.mk (some 7) none false (.mk (.t 6) (.agg [(.int .i64 (.ofNat 0)), (.int .i64 (.ofNat 0))]))), (.mk (some 3) none false (.v (.mov (.t 7))))] [.home 7 3]) A50o_7)
def A50o : AC := (.seq (.reg [] [(.mk (some 2) none false (.v (.mov (.k (.sl .nl (.ag [.s, .s]) 0 [])))))] []) A50o_6)
def an50o : List An := [{ id := 1, pre := [.clr [7]], ep := [.home 7 3], lin := [], sp := [] }, { id := 6, pre := [], ep := [.home 3 2], lin := [], sp := [] }]
theorem c50o : cC Try.prog Try.f50.ntmps an50o (Try.f50.body.getD .skip) = some A50o := by kernel_rfl
structure H50o (D : Den) (σ : Sig) (F : Nat) : Prop where
  c99 : ∀ (x0 : (Int × Int)) r, w_toIntA2 F x0 = some r → D 99 [Enc.enc x0] = some (Enc.enc (r : (Int × Int)))
  g99 : σ 99 = some (0, false)
abbrev R50o (r : (NL (Int × Int))) : (Nat → V) → Prop := RR Try.prog [.tmp 2] 1 false (encO .sh (r : NL (Int × Int)))
section
variable {D : Den} {σ : Sig} {F : Nat} {r : (NL (Int × Int))}
def w_toIntA2S_o_l1 (F : Nat) (a_1 : (List (Int × Int)))  : Nat → (List (Int × Int)) → Int → Option (NL (Int × Int))
  | 0, _, _ => none
  | k + 1, out_6, i_7 =>
    bif decide (i_7 < (a_1.length : Int)) then
      (idx a_1 i_7).bind fun e_11 =>
      (w_toIntA2 F e_11).bind fun r_12 =>
      (idx out_6 i_7).bind fun e_13 =>
      (w_toIntA2S_o_l1 F a_1 k) (out_6.set i_7.toNat r_12) (w64 (i_7 + 1))
    else
      some (.of out_6)
theorem t_f50o_l1 (H : H50o D σ F) (a_1 : (List (Int × Int)))  : ∀ (k : Nat) (out_6 : (List (Int × Int))) (i_7 : Int) (s : Nat → V), Facts [(0, (Enc.enc (a_1 : List (Int × Int)))), (2, (.sl .nl (Enc.shp (Int × Int)) 0 [])), (3, (encO (.at 3 []) (.of (out_6 : List (Int × Int))))), (4, (.int .i64 i_7))] s → w_toIntA2S_o_l1 F a_1 k out_6 i_7 = some r → Run D σ (R50o r) (.run A50o_1 [.lp A50o_1, .bk 0, .sq A50o_5]) s := by
  intro k
  induction k with
  | zero => intro out_6 i_7 s _ h; exact nomatch (h : (none : Option _) = some r)
  | succ k ih =>
    intro out_6 i_7 s hs h
    rw [w_toIntA2S_o_l1] at h
    obtain ⟨h0, h2, h3, h4⟩ := hs
    refine .seq ?_
    refine .seq ?_
    refine run_reg ?_
    refine e_end ?_
    refine g_v1 (t := 4) (u := (.int .i64 i_7)) (.int .i64 i_7) h4 rfl rfl ?_
    refine g_v1 (t := 0) (u := (Enc.enc (a_1 : List (Int × Int)))) (Enc.enc (a_1 : List (Int × Int))) h0 rfl rfl ?_
    refine g_v (.int .i64 (a_1.length : Int)) (ev_len (xs := a_1) rfl) ?_
    refine g_v2 (t1 := 8) (t2 := 10) (u1 := (.int .i64 i_7)) (u2 := (.int .i64 (a_1.length : Int))) (.bool (decide (i_7 < (a_1.length : Int)))) rfl rfl rfl rfl ?_
    refine g_end ?_
    refine e_end ?_
    refine renew [(0, (Enc.enc (a_1 : List (Int × Int)))), (2, (.sl .nl (Enc.shp (Int × Int)) 0 [])), (3, (encO (.at 3 []) (.of (out_6 : List (Int × Int))))), (4, (.int .i64 i_7)), (11, (.bool (decide (i_7 < (a_1.length : Int)))))] ⟨h0, h2, h3, h4, rfl⟩ ?_
    rintro s ⟨h0, h2, h3, h4, h11⟩
    refine .nsq ?_
    refine run_cond (t := decide (i_7 < (a_1.length : Int))) h11 h (fun h => ?_) (fun h => ?_)
    · refine .skip ?_
      refine .nsq ?_
      refine .seq ?_
      refine .block ?_
      refine run_reg ?_
      refine e_end ?_
      refine g_v1 (t := 3) (u := (encO (.at 3 []) (.of (out_6 : List (Int × Int))))) (encO (.at 3 []) (.of (out_6 : List (Int × Int)))) h3 rfl rfl ?_
      refine g_v1 (t := 4) (u := (.int .i64 i_7)) (.int .i64 i_7) h4 rfl rfl ?_
      refine g_v1 (t := 0) (u := (Enc.enc (a_1 : List (Int × Int)))) (Enc.enc (a_1 : List (Int × Int))) h0 rfl rfl ?_
      refine g_v1 (t := 4) (u := (.int .i64 i_7)) (.int .i64 i_7) h4 rfl rfl ?_
      obtain ⟨e_11, E_e_11, h⟩ := bind_some h
      refine g_v (.ref .sh 0 [] (.agg [(.int .i64 e_11.1), (.int .i64 e_11.2)])) (ev_idx (t := .sh) (lo := 0) (xs := a_1) rfl rfl E_e_11 rfl rfl) ?_
      refine g_v1 (t := 18) (u := (.ref .sh 0 [] (.agg [(.int .i64 e_11.1), (.int .i64 e_11.2)]))) (.agg [(.int .i64 e_11.1), (.int .i64 e_11.2)]) rfl rfl rfl ?_
      obtain ⟨r_12, E_r_12, h⟩ := bind_some h
      refine g_call (m := 0) (al := false) (r := (Enc.enc (r_12 : (Int × Int)))) [Enc.enc (e_11 : (Int × Int))] (ta_cons (v := (.agg [(.int .i64 e_11.1), (.int .i64 e_11.2)])) rfl rfl (Enc.erase_enc (e_11 : (Int × Int))) ta_nil) (H.c99 _ _ E_r_12) H.g99 rfl rfl rfl rfl ?_
      obtain ⟨e_13, E_e_13, h⟩ := bind_some h
      refine g_v (.ref (.at 3 []) i_7.toNat [] (.agg [(.int .i64 e_13.1), (.int .i64 e_13.2)])) (ev_idxO (o := (.of out_6)) rfl rfl E_e_13 rfl) ?_
      refine g_store (.agg [(.int .i64 r_12.1), (.int .i64 r_12.2)]) (rd_of rfl rfl) (rd_of rfl rfl) (by refine ⟨by decide, by decide, rfl, rfl, rfl, ?_⟩; first | rfl | simp [V.toks, V.tokss, Enc.toks_enc]) ?_
      refine g_end ?_
      refine e_end ?_
      refine renew [(0, (Enc.enc (a_1 : List (Int × Int)))), (2, (.sl .nl (Enc.shp (Int × Int)) 0 [])), (3, (encO (.at 3 []) (.of (out_6.set i_7.toNat r_12 : List (Int × Int))))), (4, (.int .i64 i_7))] ⟨(keep_mut h0 (Enc.mut_enc _ _ _ _ (a_1 : List (Int × Int)))), (keep_mut h2 rfl), (keep_mut h3 mut_own), (keep_mut h4 rfl)⟩ ?_
      rintro s ⟨h0, h2, h3, h4⟩
      refine .nbk ?_
      refine .nsq ?_
      refine run_reg ?_
      refine e_end ?_
      refine g_v1 (t := 4) (u := (.int .i64 i_7)) (.int .i64 i_7) h4 rfl rfl ?_
      refine g_v1 (t := 12) (u := (.int .i64 i_7)) (.int .i64 (w64 (i_7 + 1))) rfl rfl rfl ?_
      refine g_v1 (t := 13) (u := (.int .i64 (w64 (i_7 + 1)))) (.int .i64 (w64 (i_7 + 1))) rfl rfl rfl ?_
      refine g_end ?_
      refine e_end ?_
      refine renew [(0, (Enc.enc (a_1 : List (Int × Int)))), (2, (.sl .nl (Enc.shp (Int × Int)) 0 [])), (3, (encO (.at 3 []) (.of (out_6.set i_7.toNat r_12 : List (Int × Int))))), (4, (.int .i64 (w64 (i_7 + 1))))] ⟨h0, h2, h3, rfl⟩ ?_
      rintro s ⟨h0, h2, h3, h4⟩
      refine .nlp ?_
      exact ih (out_6.set i_7.toNat r_12) (w64 (i_7 + 1)) _ ⟨h0, h2, h3, h4⟩ h
    · refine .exit ?_
      refine .esq ?_
      refine .elp ?_
      refine .ebk ?_
      refine .nsq ?_
      refine .seq ?_
      refine run_reg ?_
      refine e_end ?_
      refine g_v1 (t := 3) (u := (encO (.at 3 []) (.of (out_6 : List (Int × Int))))) (encO (.at 3 []) (.of (out_6 : List (Int × Int)))) h3 rfl rfl ?_
      refine g_v1 (t := 22) (u := (encO (.at 3 []) (.of (out_6 : List (Int × Int))))) (encO (.at 3 []) (.of (out_6 : List (Int × Int)))) rfl rfl rfl ?_
      refine g_end ?_
      refine e_home (r := 3) (x := 2) (v := (encO (.at 3 []) (.of (out_6 : List (Int × Int))))) (by exact rfl) rfl (fun s_3 hg_3 => ?_)
      refine e_end ?_
      refine renew [(2, (encO (.at 2 []) (.of (out_6 : List (Int × Int)))))] (hg_3 2 (encO (.at 3 []) (.of (out_6 : List (Int × Int)))) (encO (.at 2 []) (.of (out_6 : List (Int × Int)))) rfl (map_encO (r := 3) (p := []) rfl rfl)) ?_
      rintro s h2
      refine .nsq ?_
      refine .ret ?_
      have hr := Option.some.inj h
      subst hr
      exact rrA (res_tmp h2) (fin_retO (finO_own (o := ((.of out_6) : NL (Int × Int)))) rfl (mine_own rfl))
def w_toIntA2S_o (F : Nat) (a_1 : (List (Int × Int))) : Option (NL (Int × Int)) :=
  (mkN (a_1.length : Int) (0, 0)).bind fun mk_2 =>
  w_toIntA2S_o_l1 F a_1 F mk_2 0
theorem t50o (H : H50o D σ F) (a_1 : (List (Int × Int))) (s : Nat → V) (hs : Facts [(0, (Enc.enc (a_1 : List (Int × Int))))] s) (h : w_toIntA2S_o F a_1 = some r) : Run D σ (R50o r) (.run A50o []) s := by
  unfold w_toIntA2S_o at h
  have h0 := hs
  refine .seq ?_
  refine run_reg ?_
  refine e_end ?_
  refine g_v0 (.sl .nl (Enc.shp (Int × Int)) 0 []) rfl rfl ?_
  refine g_end ?_
  refine e_end ?_
  refine renew [(0, (Enc.enc (a_1 : List (Int × Int)))), (2, (.sl .nl (Enc.shp (Int × Int)) 0 []))] ⟨h0, rfl⟩ ?_
  rintro s ⟨h0, h2⟩
  refine .nsq ?_
  refine .seq ?_
  refine run_reg ?_
  refine e_clr ?_
  refine e_end ?_
  refine g_v1 (t := 0) (u := (Enc.enc (a_1 : List (Int × Int)))) (Enc.enc (a_1 : List (Int × Int))) (keep_clear (s := s) (pk := [7]) h0 rfl (Enc.map_enc _ (a_1 : List (Int × Int)))) rfl rfl ?_
  refine g_v (.int .i64 (a_1.length : Int)) (ev_len (xs := a_1) rfl) ?_
  obtain ⟨mk_2, E_mk_2, h⟩ := bind_some h
  refine g_mk ((0, 0) : (Int × Int)) rfl rfl (gone_clear (s := s) (pk := [7]) (t := 7) rfl) E_mk_2 ?_
  refine g_v1 (t := 7) (u := (encO (.at 7 []) (.of (mk_2 : List (Int × Int))))) (encO (.at 7 []) (.of (mk_2 : List (Int × Int)))) rfl rfl rfl ?_
  refine g_end ?_
  refine e_home (r := 7) (x := 3) (v := (encO (.at 7 []) (.of (mk_2 : List (Int × Int))))) (by exact rfl) rfl (fun s_2 hg_2 => ?_)
  refine e_end ?_
  refine renew [(0, (Enc.enc (a_1 : List (Int × Int)))), (2, (.sl .nl (Enc.shp (Int × Int)) 0 [])), (3, (encO (.at 3 []) (.of (mk_2 : List (Int × Int)))))] ⟨(hg_2 0 (Enc.enc (a_1 : List (Int × Int))) (Enc.enc (a_1 : List (Int × Int))) (keep_clear (s := s) (pk := [7]) h0 rfl (Enc.map_enc _ (a_1 : List (Int × Int)))) (Enc.map_enc _ (a_1 : List (Int × Int)))), (hg_2 2 (.sl .nl (Enc.shp (Int × Int)) 0 []) (.sl .nl (Enc.shp (Int × Int)) 0 []) (keep_clear (s := s) (pk := [7]) h2 rfl rfl) rfl), (hg_2 3 (encO (.at 7 []) (.of (mk_2 : List (Int × Int)))) (encO (.at 3 []) (.of (mk_2 : List (Int × Int)))) rfl (map_encO (r := 7) (p := []) rfl rfl))⟩ ?_
  rintro s ⟨h0, h2, h3⟩
  refine .nsq ?_
  refine .seq ?_
  refine .seq ?_
  refine run_reg ?_
  refine e_end ?_
  refine g_v0 (.int .i64 0) rfl rfl ?_
  refine g_end ?_
  refine e_end ?_
  refine renew [(0, (Enc.enc (a_1 : List (Int × Int)))), (2, (.sl .nl (Enc.shp (Int × Int)) 0 [])), (3, (encO (.at 3 []) (.of (mk_2 : List (Int × Int))))), (4, (.int .i64 0))] ⟨h0, h2, h3, rfl⟩ ?_
  rintro s ⟨h0, h2, h3, h4⟩
  refine .nsq ?_
  refine .block ?_
  refine .loop ?_
  exact t_f50o_l1 H a_1 F mk_2 0 _ ⟨h0, h2, h3, h4⟩ h
end
def e50o (F : Nat) : Ent := ⟨1000000050, da (fun (x : ((List (Int × Int)) × Unit)) => w_toIntA2S_o F x.1) (fun (r : (NL (Int × Int))) => (encO .sh (r : NL (Int × Int)))), 1, false, selF []⟩
theorem p50o {F : Nat} {x0 : (List (Int × Int))} {r : (NL (Int × Int))} (h : w_toIntA2S_o F x0 = some r) : (e50o F).den [Enc.enc x0] = some (encO .sh (r : NL (Int × Int))) := da_put (f := fun (x : ((List (Int × Int)) × Unit)) => w_toIntA2S_o F x.1) (t := fun (r : (NL (Int × Int))) => (encO .sh (r : NL (Int × Int)))) (x0, ()) h
theorem o50o {D : Den} {σ : Sig} {F : Nat} (hF : Fits2 Try.prog D σ) (H : H50o D σ F) : (e50o F).Ok Try.prog := by
  refine ok_of (f := 50) (show unk 1000000050 = 50 from rfl) (fun args r h => ?_) ⟨Try.f50, Try.func50, rfl, rfl⟩
  obtain ⟨⟨x0, _⟩, y, rfl, hy, rfl⟩ := da_open h
  exact contract_run hF (by kernel_rfl) Try.func50 rfl c50o (show 1 ≤ Try.f50.ntmps by decide) (t50o H x0 _ rfl hy)
/- loop.example/g01109/laws.toGraph -/
def A17o_4 : AC := (.seq (.reg [] [(.mk (some 11) none false (.v (.load (.ag [.s, .p]) (.t 3)))), (.mk none none false (.store (.ag [.s, .p]) (.t 2) (.t 11)))] []) .ret)
def A17o_3 : AC := (.seq (.reg [.clr [9]] [(.mk (some 7) none false (.v (.fld (.t 1) 1 1))), (.mk (some 8) none false (.v (.load .p (.t 7)))), (.mk (some 9) none false (.callO (.k (.fn 50 [] [])) [(.t 8)])), (.mk (some 10) none false (.v (.fld (.t 3) 1 1))), (.mk none none false (.store .p (.t 10) (.t 9)))] []) A17o_4)
def A17o_2 : AC := (.seq (.reg [] [(.mk (some 4) none false (.v (.fld (.t 1) 0 0))), (.mk (some 5) none false (.v (.load .s (.t 4)))), (.mk (some 6) none false (.v (.fld (.t 3) 0 0))), (.mk none none false (.store .s (.t 6) (.t 5)))] []) A17o_3)
def A17o_1 : AC := (.seq (.reg [.clr [3]] [(.mk (some 3) none false (.alloc (.agg [(.int .i64 (.ofNat 0)), (.sl .nl (.ag [.s, .s]) 0 [])])))] []) A17o_2)
def A17o : AC := (.seq (.reg [.clr [1, 2]] [(.mk (some 1) none false (.box (.t 0))), (.mk (some 2) none false (.alloc (.agg [(.int .i64 (.ofNat 0)), (.sl .nl (.ag [.s, .s]) 0 [])])))] []) A17o_1)
def an17o : List An := [{ id := 0, pre := [.clr [1, 2]], ep := [], lin := [], sp := [] }, { id := 1, pre := [.clr [3]], ep := [], lin := [], sp := [] }, { id := 3, pre := [.clr [9]], ep := [], lin := [], sp := [1002] }]
theorem c17o : cC Try.prog Try.f17.ntmps an17o (Try.f17.body.getD .skip) = some A17o := by kernel_rfl
structure H17o (D : Den) (σ : Sig) (F : Nat) : Prop where
  c50o : ∀ (x0 : (List (Int × Int))) r, w_toIntA2S_o F x0 = some r → D 1000000050 [Enc.enc x0] = some (encO .sh (r : NL (Int × Int)))
  g50o : σ 1000000050 = some (1, false)
abbrev R17o (r : (Int × (NL (Int × Int)))) : (Nat → V) → Prop := RR Try.prog [.cell 2 29] 1 false (.agg [(Enc.enc (r.1 : Int)), (encO .sh (r.2 : NL (Int × Int)))])
section
variable {D : Den} {σ : Sig} {F : Nat} {r : (Int × (NL (Int × Int)))}
def w_toGraph_o (F : Nat) (a_1 : (Int × (List (Int × Int)))) : Option (Int × (NL (Int × Int))) :=
  (w_toIntA2S_o F a_1.2).bind fun r_2 =>
  some (a_1.1, r_2)
theorem t17o (H : H17o D σ F) (a_1 : (Int × (List (Int × Int)))) (s : Nat → V) (hs : Facts [(0, (.agg [(.int .i64 a_1.1), (Enc.enc (a_1.2 : List (Int × Int)))]))] s) (h : w_toGraph_o F a_1 = some r) : Run D σ (R17o r) (.run A17o []) s := by
  unfold w_toGraph_o at h
  have h0 := hs
  refine .seq ?_
  refine run_reg ?_
  refine e_clr ?_
  refine e_end ?_
  refine g_box (.agg [(.int .i64 a_1.1), (Enc.enc (a_1.2 : List (Int × Int)))]) (rd_of (keep_clear (s := s) (pk := [1, 2]) h0 rfl (map_agg (maps_cons rfl (maps_cons (Enc.map_enc _ (a_1.2 : List (Int × Int))) maps_nil)))) rfl) (gone_clear (s := s) (pk := [1, 2]) (t := 1) rfl) rfl ?_
  refine g_alloc (gone_clear (s := s) (pk := [1, 2]) (t := 2) rfl) ?_
  refine g_end ?_
  refine e_end ?_
  refine renew [(1, (.ref (.bx 1) 0 [] (.agg [(.int .i64 a_1.1), (Enc.enc (a_1.2 : List (Int × Int)))]))), (2, (.ref (.bx 2) 0 [] (.agg [(.int .i64 0), (.sl .nl (Enc.shp (Int × Int)) 0 [])])))] ⟨rfl, rfl⟩ ?_
  rintro s ⟨h1, h2⟩
  refine .nsq ?_
  refine .seq ?_
  refine run_reg ?_
  refine e_clr ?_
  refine e_end ?_
  refine g_alloc (gone_clear (s := s) (pk := [3]) (t := 3) rfl) ?_
  refine g_end ?_
  refine e_end ?_
  refine renew [(1, (.ref (.bx 1) 0 [] (.agg [(.int .i64 a_1.1), (Enc.enc (a_1.2 : List (Int × Int)))]))), (2, (.ref (.bx 2) 0 [] (.agg [(.int .i64 0), (.sl .nl (Enc.shp (Int × Int)) 0 [])]))), (3, (.ref (.bx 3) 0 [] (.agg [(.int .i64 0), (.sl .nl (Enc.shp (Int × Int)) 0 [])])))] ⟨(keep_clear (s := s) (pk := [3]) h1 rfl (map_bx rfl (map_agg (maps_cons rfl (maps_cons (Enc.map_enc _ (a_1.2 : List (Int × Int))) maps_nil))))), (keep_clear (s := s) (pk := [3]) h2 rfl (map_bx rfl (map_agg (maps_cons rfl (maps_cons rfl maps_nil))))), rfl⟩ ?_
  rintro s ⟨h1, h2, h3⟩
  refine .nsq ?_
  refine .seq ?_
  refine run_reg ?_
  refine e_end ?_
  refine g_v1 (t := 1) (u := (.ref (.bx 1) 0 [] (.agg [(.int .i64 a_1.1), (Enc.enc (a_1.2 : List (Int × Int)))]))) (.ref (.bx 1) 0 [0] (.int .i64 a_1.1)) h1 rfl rfl ?_
  refine g_v1 (t := 4) (u := (.ref (.bx 1) 0 [0] (.int .i64 a_1.1))) (.int .i64 a_1.1) rfl rfl rfl ?_
  refine g_v1 (t := 3) (u := (.ref (.bx 3) 0 [] (.agg [(.int .i64 0), (.sl .nl (Enc.shp (Int × Int)) 0 [])]))) (.ref (.bx 3) 0 [0] (.int .i64 0)) h3 rfl rfl ?_
  refine g_store (.int .i64 a_1.1) (rd_of rfl rfl) (rd_of rfl rfl) (by refine ⟨by decide, by decide, rfl, rfl, rfl, ?_⟩; first | rfl | simp [V.toks, V.tokss, Enc.toks_enc]) ?_
  refine g_end ?_
  refine e_end ?_
  refine renew [(1, (.ref (.bx 1) 0 [] (.agg [(.int .i64 a_1.1), (Enc.enc (a_1.2 : List (Int × Int)))]))), (2, (.ref (.bx 2) 0 [] (.agg [(.int .i64 0), (.sl .nl (Enc.shp (Int × Int)) 0 [])]))), (3, (.ref (.bx 3) 0 [] (.agg [(.int .i64 a_1.1), (.sl .nl (Enc.shp (Int × Int)) 0 [])])))] ⟨(keep_mut h1 (mut_ref_ne rfl rfl (mut_agg (muts_cons rfl (muts_cons (Enc.mut_enc _ _ _ _ (a_1.2 : List (Int × Int))) rfl))))), (keep_mut h2 (mut_ref_ne rfl rfl (mut_agg (muts_cons rfl (muts_cons rfl rfl))))), (keep_mut h3 rfl)⟩ ?_
  rintro s ⟨h1, h2, h3⟩
  refine .nsq ?_
  refine .seq ?_
  refine run_reg ?_
  refine e_clr ?_
  refine e_end ?_
  refine g_v1 (t := 1) (u := (.ref (.bx 1) 0 [] (.agg [(.int .i64 a_1.1), (Enc.enc (a_1.2 : List (Int × Int)))]))) (.ref (.bx 1) 0 [1] (Enc.enc (a_1.2 : List (Int × Int)))) (keep_clear (s := s) (pk := [9]) h1 rfl (map_bx rfl (map_agg (maps_cons rfl (maps_cons (Enc.map_enc _ (a_1.2 : List (Int × Int))) maps_nil))))) rfl rfl ?_
  refine g_v1 (t := 7) (u := (.ref (.bx 1) 0 [1] (Enc.enc (a_1.2 : List (Int × Int))))) (Enc.enc (a_1.2 : List (Int × Int))) rfl rfl rfl ?_
  obtain ⟨r_2, E_r_2, h⟩ := bind_some h
  refine g_callO (m := 1) (al := false) (r := (encO .sh (r_2 : NL (Int × Int)))) (v := (encO (.at 9 []) (r_2 : NL (Int × Int)))) (kk := 1000000050) [Enc.enc (a_1.2 : (List (Int × Int)))] (ta_cons (v := (Enc.enc (a_1.2 : List (Int × Int)))) rfl rfl (Enc.erase_enc (a_1.2 : (List (Int × Int)))) ta_nil) (H.c50o _ _ E_r_2) H.g50o rfl toks_encS tag_encO ok_encP (gone_clear (s := s) (pk := [9]) (t := 9) rfl) ?_
  refine g_v1 (t := 3) (u := (.ref (.bx 3) 0 [] (.agg [(.int .i64 a_1.1), (.sl .nl (Enc.shp (Int × Int)) 0 [])]))) (.ref (.bx 3) 0 [1] (.sl .nl (Enc.shp (Int × Int)) 0 [])) (keep_clear (s := s) (pk := [9]) h3 rfl (map_bx rfl (map_agg (maps_cons rfl (maps_cons rfl maps_nil))))) rfl rfl ?_
  refine g_store (encO (.at 9 []) (r_2 : NL (Int × Int))) (rd_of rfl rfl) (rd_of rfl ok_encP) ⟨by decide, by decide, mem_encP, shp_encP, rfl, tok_encP rfl rfl⟩ ?_
  refine g_end ?_
  refine e_end ?_
  refine renew [(2, (.ref (.bx 2) 0 [] (.agg [(.int .i64 0), (.sl .nl (Enc.shp (Int × Int)) 0 [])]))), (3, (.ref (.bx 3) 0 [] (.agg [(.int .i64 a_1.1), (encO (.at 9 []) (r_2 : NL (Int × Int)))])))] ⟨(keep_mut (keep_clear (s := s) (pk := [9]) h2 rfl (map_bx rfl (map_agg (maps_cons rfl (maps_cons rfl maps_nil))))) (mut_ref_ne rfl rfl (mut_agg (muts_cons rfl (muts_cons rfl rfl))))), (keep_mut (keep_clear (s := s) (pk := [9]) h3 rfl (map_bx rfl (map_agg (maps_cons rfl (maps_cons rfl maps_nil))))) rfl)⟩ ?_
  rintro s ⟨h2, h3⟩
  refine .nsq ?_
  refine .seq ?_
  refine run_reg ?_
  refine e_end ?_
  refine g_v (.agg [(.int .i64 a_1.1), (encO (.at 9 []) (r_2 : NL (Int × Int)))]) (ev_loadN (c := (.agg [(.int .i64 a_1.1), (encO (.at 9 []) (r_2 : NL (Int × Int)))])) h3 (by simp [V.shape, V.shapes, shape_encP, Sh.beq, Sh.beqs])) ?_
  refine g_store (.agg [(.int .i64 a_1.1), (encO (.at 9 []) (r_2 : NL (Int × Int)))]) (rd_of h2 rfl) (rd_of rfl rfl) ⟨by decide, by decide, rfl, (by simp [V.shape, V.shapes, shape_encP, Sh.beq, Sh.beqs]), (by simp [V.shape, V.shapes, shape_encP, Sh.beq, Sh.beqs]), (by simp [V.toks, V.tokss, tok_memP])⟩ ?_
  refine g_end ?_
  refine e_end ?_
  refine renew [(2, (.ref (.bx 2) 0 [] (.agg [(.int .i64 a_1.1), (encO (.at 9 []) (r_2 : NL (Int × Int)))])))] (keep_mut h2 rfl) ?_
  rintro s h2
  refine .nsq ?_
  refine .ret ?_
  have hr := Option.some.inj h
  subst hr
  exact rrA (res_cell h2 (by simp only [V.shape, V.shapes, shape_encP]; kernel_rfl)) (fin_retO (finO_agg (finOs_cons finO_int (finOs_cons (finO_own (o := (r_2 : NL (Int × Int)))) finOs_nil))) rfl (mine_agg (mines_cons rfl (mines_cons (mine_own rfl) mines_nil))))
end
def e17o (F : Nat) : Ent := ⟨1000000017, da (fun (x : ((Int × (List (Int × Int))) × Unit)) => w_toGraph_o F x.1) (fun (r : (Int × (NL (Int × Int)))) => (.agg [(Enc.enc (r.1 : Int)), (encO .sh (r.2 : NL (Int × Int)))])), 1, false, selF []⟩
theorem p17o {F : Nat} {x0 : (Int × (List (Int × Int)))} {r : (Int × (NL (Int × Int)))} (h : w_toGraph_o F x0 = some r) : (e17o F).den [Enc.enc x0] = some (.agg [(Enc.enc (r.1 : Int)), (encO .sh (r.2 : NL (Int × Int)))]) := da_put (f := fun (x : ((Int × (List (Int × Int))) × Unit)) => w_toGraph_o F x.1) (t := fun (r : (Int × (NL (Int × Int)))) => (.agg [(Enc.enc (r.1 : Int)), (encO .sh (r.2 : NL (Int × Int)))])) (x0, ()) h
theorem o17o {D : Den} {σ : Sig} {F : Nat} (hF : Fits2 Try.prog D σ) (H : H17o D σ F) : (e17o F).Ok Try.prog := by
  refine ok_of (f := 17) (show unk 1000000017 = 17 from rfl) (fun args r h => ?_) ⟨Try.f17, Try.func17, rfl, rfl⟩
  obtain ⟨⟨x0, _⟩, y, rfl, hy, rfl⟩ := da_open h
  exact contract_run hF (by kernel_rfl) Try.func17 rfl c17o (show 1 ≤ Try.f17.ntmps by decide) (t17o H x0 _ rfl hy)
/- loop.example/g01109/laws.markIntA2S -/
def A55_2 : AC := (.cond (.t 10) .skip (.exit 0))
def A55_6 : AC := (.cond (.t 14) .skip (.exit 2))
def A55_8 : AC := (.reg [] [(.mk (some 23) none false (.v (.mov (.t 1)))), (.mk (some 24) none false (.v (.bin .add (.t 23) (.k (.int .i64 (.ofNat 1)))))), (.mk (some 1) none false (.v (.mov (.t 24))))] [])
def A55_9 : AC := (.reg [] [(.mk (some 15) none false (.v (.mov (.t 6)))), (.mk (some 16) none false (.v (.bin .add (.t 15) (.k (.int .i64 (.ofNat 1)))))), (.mk (some 6) none false (.v (.mov (.t 16))))] [])
def A55_7 : AC := (.seq (.block 3 (.seq (.reg [] [(.mk (some 17) none false (.v (.mov (.t 0)))), (.mk (some 18) none false (.v (.mov (.t 5)))), (.mk (some 19) none false (.v (.mov (.t 6)))), (.mk (some 20) none false (.v (.mov (.t 1)))), (.mk (some 21) none false (.v (.idx (.t 17) (.t 18) 2))), (.mk (some 22) none false (.v (.idxA (.t 21) (.t 19) 2 1))), (.mk none none false (.store .s (.t 22) (.t 20)))] []) A55_8)) A55_9)
def A55_5 : AC := (.seq (.seq (.reg [] [(.mk (some 13) none false (.v (.mov (.t 6)))), (.mk (some 14) none false (.v (.bin .lss (.t 13) (.k (.int .i64 (.ofNat 2))))))] []) A55_6) A55_7)
def A55_4 : AC := (.block 2 (.loop A55_5))
def A55_10 : AC := (.reg [] [(.mk (some 11) none false (.v (.mov (.t 5)))), (.mk (some 12) none false (.v (.bin .add (.t 11) (.k (.int .i64 (.ofNat 1)))))), (.mk (some 5) none false (.v (.mov (.t 12))))] [])
def A55_3 : AC := (.seq (.block 1 (.seq (.reg [] [(.mk (some 6) none false (.v (.mov (.k (.int .i64 (.ofNat 0))))))] []) A55_4)) A55_10)
def A55_1 : AC := (.seq (.seq (.reg [] [(.mk (some 7) none false (.v (.mov (.t 5)))), (.mk (some 8) none false (.v (.mov (.t 0)))), (.mk (some 9) none false (.v (.len (.t 8)))), (.mk (some 10) none false (.v (.bin .lss (.t 7) (.t 9))))] []) A55_2) A55_3)
def A55_11 : AC := (.seq (.reg [] [(.mk (some 25) none false (.v (.mov (.t 1)))), (.mk (some 4) none false (.v (.mov (.t 25))))] []) .ret)
def A55_13 : AC := (.block 0 (.loop A55_1))
def A55_12 : AC := (.seq (.seq (.reg [] [(.mk (some 5) none false (.v (.mov (.k (.int .i64 (.ofNat 0))))))] []) A55_13) A55_11)
def A55 : AC := (.seq (.reg [] [(.mk (some 4) none false (.v (.mov (.k (.int .i64 (.ofNat 0))))))] []) A55_12)
def an55 : List An := []
theorem c55 : cC Try.prog Try.f55.ntmps an55 (Try.f55.body.getD .skip) = some A55 := by kernel_rfl
structure H55 (D : Den) (σ : Sig) (F : Nat) : Prop where
  mk ::
abbrev R55 (r : (Int × NL (Int × Int))) : (Nat → V) → Prop := RM Try.prog [.tmp 4] (Enc.enc (r.1 : Int)) (encO (.at pinR []) (r.2 : NL (Int × Int)))
section
variable {D : Den} {σ : Sig} {F : Nat} {r : (Int × NL (Int × Int))}
def w_markIntA2S_l1 (F : Nat) (i_13 : Int) (c1 : (NL (Int × Int)) → Int → Int → Option (Int × NL (Int × Int))) : Nat → (NL (Int × Int)) → Int → Int → Option (Int × NL (Int × Int))
  | 0, _, _, _ => none
  | k + 1, a_23, k_24, j_25 =>
    bif decide (j_25 < 2) then
      (idx a_23.list i_13).bind fun e_28 =>
      (idx [e_28.1, e_28.2] j_25).bind fun e_29 =>
      (w_markIntA2S_l1 F i_13 c1 k) (NL.set2 a_23 i_13.toNat j_25 k_24) (w64 (k_24 + 1)) (w64 (j_25 + 1))
    else
      c1 a_23 k_24 (w64 (i_13 + 1))
theorem t_f55_l1 (H : H55 D σ F) (i_13 : Int) (c1 : (NL (Int × Int)) → Int → Int → Option (Int × NL (Int × Int))) (Hc1 : ∀ (a_11 : (NL (Int × Int))) (k_12 : Int) (i_13 : Int) (s : Nat → V), Facts [(0, (encO (.at pinR []) (a_11 : NL (Int × Int)))), (1, (.int .i64 k_12)), (4, (.int .i64 0)), (5, (.int .i64 i_13))] s → c1 a_11 k_12 i_13 = some r → Run D σ (R55 r) (.run A55_1 [.lp A55_1, .bk 0, .sq A55_11]) s) : ∀ (k : Nat) (a_23 : (NL (Int × Int))) (k_24 : Int) (j_25 : Int) (s : Nat → V), Facts [(0, (encO (.at pinR []) (a_23 : NL (Int × Int)))), (1, (.int .i64 k_24)), (4, (.int .i64 0)), (5, (.int .i64 i_13)), (6, (.int .i64 j_25))] s → w_markIntA2S_l1 F i_13 c1 k a_23 k_24 j_25 = some r → Run D σ (R55 r) (.run A55_5 [.lp A55_5, .bk 2, .bk 1, .sq A55_10, .lp A55_1, .bk 0, .sq A55_11]) s := by
  intro k
  induction k with
  | zero => intro a_23 k_24 j_25 s _ h; exact nomatch (h : (none : Option _) = some r)
  | succ k ih =>
    intro a_23 k_24 j_25 s hs h
    rw [w_markIntA2S_l1] at h
    obtain ⟨h0, h1, h4, h5, h6⟩ := hs
    refine .seq ?_
    refine .seq ?_
    refine run_reg ?_
    refine e_end ?_
    refine g_v1 (t := 6) (u := (.int .i64 j_25)) (.int .i64 j_25) h6 rfl rfl ?_
    refine g_v1 (t := 13) (u := (.int .i64 j_25)) (.bool (decide (j_25 < 2))) rfl rfl rfl ?_
    refine g_end ?_
    refine e_end ?_
    refine renew [(0, (encO (.at pinR []) (a_23 : NL (Int × Int)))), (1, (.int .i64 k_24)), (4, (.int .i64 0)), (5, (.int .i64 i_13)), (6, (.int .i64 j_25)), (14, (.bool (decide (j_25 < 2))))] ⟨h0, h1, h4, h5, h6, rfl⟩ ?_
    rintro s ⟨h0, h1, h4, h5, h6, h14⟩
    refine .nsq ?_
    refine run_cond (t := decide (j_25 < 2)) h14 h (fun h => ?_) (fun h => ?_)
    · refine .skip ?_
      refine .nsq ?_
      refine .seq ?_
      refine .block ?_
      refine .seq ?_
      refine run_reg ?_
      refine e_end ?_
      refine g_v (encO (.at pinR []) (a_23 : NL (Int × Int))) (ev_mov h0 ok_encO) ?_
      refine g_v1 (t := 5) (u := (.int .i64 i_13)) (.int .i64 i_13) h5 rfl rfl ?_
      refine g_v1 (t := 6) (u := (.int .i64 j_25)) (.int .i64 j_25) h6 rfl rfl ?_
      refine g_v1 (t := 1) (u := (.int .i64 k_24)) (.int .i64 k_24) h1 rfl rfl ?_
      obtain ⟨e_28, E_e_28, h⟩ := bind_some h
      refine g_v (.ref (.at pinR []) i_13.toNat [] (.agg [(.int .i64 e_28.1), (.int .i64 e_28.2)])) (ev_idxO (o := a_23) rfl rfl E_e_28 rfl) ?_
      obtain ⟨e_29, E_e_29, h⟩ := bind_some h
      refine g_v (.ref (.at pinR []) i_13.toNat [j_25.toNat] (.int .i64 e_29)) (ev_idxA (xs := [e_28.1, e_28.2]) (a := e_29) (n := j_25) (q := []) rfl rfl E_e_29 rfl rfl rfl) ?_
      refine g_store (.int .i64 k_24) (rd_of rfl rfl) (rd_of rfl rfl) (by refine ⟨by decide, by decide, rfl, rfl, rfl, ?_⟩; first | rfl | simp [V.toks, V.tokss, Enc.toks_enc]) ?_
      refine g_end ?_
      refine e_end ?_
      refine renew [(0, (encO (.at pinR []) ((NL.set2 a_23 i_13.toNat j_25 k_24) : NL (Int × Int)))), (1, (.int .i64 k_24)), (4, (.int .i64 0)), (5, (.int .i64 i_13)), (6, (.int .i64 j_25))] ⟨(keep_mut h0 (mut_own2 (o := a_23) E_e_29 rfl)), (keep_mut h1 rfl), (keep_mut h4 rfl), (keep_mut h5 rfl), (keep_mut h6 rfl)⟩ ?_
      rintro s ⟨h0, h1, h4, h5, h6⟩
      refine .nsq ?_
      refine run_reg ?_
      refine e_end ?_
      refine g_v1 (t := 1) (u := (.int .i64 k_24)) (.int .i64 k_24) h1 rfl rfl ?_
      refine g_v1 (t := 23) (u := (.int .i64 k_24)) (.int .i64 (w64 (k_24 + 1))) rfl rfl rfl ?_
      refine g_v1 (t := 24) (u := (.int .i64 (w64 (k_24 + 1)))) (.int .i64 (w64 (k_24 + 1))) rfl rfl rfl ?_
      refine g_end ?_
      refine e_end ?_
      refine renew [(0, (encO (.at pinR []) ((NL.set2 a_23 i_13.toNat j_25 k_24) : NL (Int × Int)))), (1, (.int .i64 (w64 (k_24 + 1)))), (4, (.int .i64 0)), (5, (.int .i64 i_13)), (6, (.int .i64 j_25))] ⟨h0, rfl, h4, h5, h6⟩ ?_
      rintro s ⟨h0, h1, h4, h5, h6⟩
      refine .nbk ?_
      refine .nsq ?_
      refine run_reg ?_
      refine e_end ?_
      refine g_v1 (t := 6) (u := (.int .i64 j_25)) (.int .i64 j_25) h6 rfl rfl ?_
      refine g_v1 (t := 15) (u := (.int .i64 j_25)) (.int .i64 (w64 (j_25 + 1))) rfl rfl rfl ?_
      refine g_v1 (t := 16) (u := (.int .i64 (w64 (j_25 + 1)))) (.int .i64 (w64 (j_25 + 1))) rfl rfl rfl ?_
      refine g_end ?_
      refine e_end ?_
      refine renew [(0, (encO (.at pinR []) ((NL.set2 a_23 i_13.toNat j_25 k_24) : NL (Int × Int)))), (1, (.int .i64 (w64 (k_24 + 1)))), (4, (.int .i64 0)), (5, (.int .i64 i_13)), (6, (.int .i64 (w64 (j_25 + 1))))] ⟨h0, h1, h4, h5, rfl⟩ ?_
      rintro s ⟨h0, h1, h4, h5, h6⟩
      refine .nlp ?_
      exact ih (NL.set2 a_23 i_13.toNat j_25 k_24) (w64 (k_24 + 1)) (w64 (j_25 + 1)) _ ⟨h0, h1, h4, h5, h6⟩ h
    · refine .exit ?_
      refine .esq ?_
      refine .elp ?_
      refine .ebk ?_
      refine .nbk ?_
      refine .nsq ?_
      refine run_reg ?_
      refine e_end ?_
      refine g_v1 (t := 5) (u := (.int .i64 i_13)) (.int .i64 i_13) h5 rfl rfl ?_
      refine g_v1 (t := 11) (u := (.int .i64 i_13)) (.int .i64 (w64 (i_13 + 1))) rfl rfl rfl ?_
      refine g_v1 (t := 12) (u := (.int .i64 (w64 (i_13 + 1)))) (.int .i64 (w64 (i_13 + 1))) rfl rfl rfl ?_
      refine g_end ?_
      refine e_end ?_
      refine renew [(0, (encO (.at pinR []) (a_23 : NL (Int × Int)))), (1, (.int .i64 k_24)), (4, (.int .i64 0)), (5, (.int .i64 (w64 (i_13 + 1))))] ⟨h0, h1, h4, rfl⟩ ?_
      rintro s ⟨h0, h1, h4, h5⟩
      refine .nlp ?_
      exact Hc1 a_23 k_24 (w64 (i_13 + 1)) _ ⟨h0, h1, h4, h5⟩ h
def w_markIntA2S_l2 (F : Nat)   : Nat → (NL (Int × Int)) → Int → Int → Option (Int × NL (Int × Int))
  | 0, _, _, _ => none
  | k + 1, a_11, k_12, i_13 =>
    bif decide (i_13 < (a_11.list.length : Int)) then
      w_markIntA2S_l1 F i_13 (w_markIntA2S_l2 F k) F a_11 k_12 0
    else
      some (k_12, a_11)
theorem t_f55_l2 (H : H55 D σ F)   : ∀ (k : Nat) (a_11 : (NL (Int × Int))) (k_12 : Int) (i_13 : Int) (s : Nat → V), Facts [(0, (encO (.at pinR []) (a_11 : NL (Int × Int)))), (1, (.int .i64 k_12)), (4, (.int .i64 0)), (5, (.int .i64 i_13))] s → w_markIntA2S_l2 F k a_11 k_12 i_13 = some r → Run D σ (R55 r) (.run A55_1 [.lp A55_1, .bk 0, .sq A55_11]) s := by
  intro k
  induction k with
  | zero => intro a_11 k_12 i_13 s _ h; exact nomatch (h : (none : Option _) = some r)
  | succ k ih =>
    intro a_11 k_12 i_13 s hs h
    rw [w_markIntA2S_l2] at h
    obtain ⟨h0, h1, h4, h5⟩ := hs
    refine .seq ?_
    refine .seq ?_
    refine run_reg ?_
    refine e_end ?_
    refine g_v1 (t := 5) (u := (.int .i64 i_13)) (.int .i64 i_13) h5 rfl rfl ?_
    refine g_v (encO (.at pinR []) (a_11 : NL (Int × Int))) (ev_mov h0 ok_encO) ?_
    refine g_v (.int .i64 (a_11.list.length : Int)) (ev_lenO (o := a_11) rfl) ?_
    refine g_v2 (t1 := 7) (t2 := 9) (u1 := (.int .i64 i_13)) (u2 := (.int .i64 (a_11.list.length : Int))) (.bool (decide (i_13 < (a_11.list.length : Int)))) rfl rfl rfl rfl ?_
    refine g_end ?_
    refine e_end ?_
    refine renew [(0, (encO (.at pinR []) (a_11 : NL (Int × Int)))), (1, (.int .i64 k_12)), (4, (.int .i64 0)), (5, (.int .i64 i_13)), (10, (.bool (decide (i_13 < (a_11.list.length : Int)))))] ⟨h0, h1, h4, h5, rfl⟩ ?_
    rintro s ⟨h0, h1, h4, h5, h10⟩
    refine .nsq ?_
    refine run_cond (t := decide (i_13 < (a_11.list.length : Int))) h10 h (fun h => ?_) (fun h => ?_)
    · refine .skip ?_
      refine .nsq ?_
      refine .seq ?_
      refine .block ?_
      refine .seq ?_
      refine run_reg ?_
      refine e_end ?_
      refine g_v0 (.int .i64 0) rfl rfl ?_
      refine g_end ?_
      refine e_end ?_
      refine renew [(0, (encO (.at pinR []) (a_11 : NL (Int × Int)))), (1, (.int .i64 k_12)), (4, (.int .i64 0)), (5, (.int .i64 i_13)), (6, (.int .i64 0))] ⟨h0, h1, h4, h5, rfl⟩ ?_
      rintro s ⟨h0, h1, h4, h5, h6⟩
      refine .nsq ?_
      refine .block ?_
      refine .loop ?_
      exact t_f55_l1 H i_13 (w_markIntA2S_l2 F k) ih F a_11 k_12 0 _ ⟨h0, h1, h4, h5, h6⟩ h
    · refine .exit ?_
      refine .esq ?_
      refine .elp ?_
      refine .ebk ?_
      refine .nsq ?_
      refine .seq ?_
      refine run_reg ?_
      refine e_end ?_
      refine g_v1 (t := 1) (u := (.int .i64 k_12)) (.int .i64 k_12) h1 rfl rfl ?_
      refine g_v1 (t := 25) (u := (.int .i64 k_12)) (.int .i64 k_12) rfl rfl rfl ?_
      refine g_end ?_
      refine e_end ?_
      refine renew [(0, (encO (.at pinR []) (a_11 : NL (Int × Int)))), (4, (.int .i64 k_12))] ⟨h0, rfl⟩ ?_
      rintro s ⟨h0, h4⟩
      refine .nsq ?_
      refine .ret ?_
      have hr := Option.some.inj h
      subst hr
      exact rmA (res_tmp h4) h0
def w_markIntA2S (F : Nat) (a_1 : (On (Int × Int))) (k_2 : Int) : Option (Int × NL (Int × Int)) :=
  w_markIntA2S_l2 F F a_1.v k_2 0
theorem t55 (H : H55 D σ F) (a_1 : (On (Int × Int))) (k_2 : Int) (s : Nat → V) (hs : Facts [(0, (encO (.at pinR []) (a_1.v : NL (Int × Int)))), (1, (.int .i64 k_2))] s) (h : w_markIntA2S F a_1 k_2 = some r) : Run D σ (R55 r) (.run A55 []) s := by
  unfold w_markIntA2S at h
  obtain ⟨h0, h1⟩ := hs
  refine .seq ?_
  refine run_reg ?_
  refine e_end ?_
  refine g_v0 (.int .i64 0) rfl rfl ?_
  refine g_end ?_
  refine e_end ?_
  refine renew [(0, (encO (.at pinR []) (a_1.v : NL (Int × Int)))), (1, (.int .i64 k_2)), (4, (.int .i64 0))] ⟨h0, h1, rfl⟩ ?_
  rintro s ⟨h0, h1, h4⟩
  refine .nsq ?_
  refine .seq ?_
  refine .seq ?_
  refine run_reg ?_
  refine e_end ?_
  refine g_v0 (.int .i64 0) rfl rfl ?_
  refine g_end ?_
  refine e_end ?_
  refine renew [(0, (encO (.at pinR []) (a_1.v : NL (Int × Int)))), (1, (.int .i64 k_2)), (4, (.int .i64 0)), (5, (.int .i64 0))] ⟨h0, h1, h4, rfl⟩ ?_
  rintro s ⟨h0, h1, h4, h5⟩
  refine .nsq ?_
  refine .block ?_
  refine .loop ?_
  exact t_f55_l2 H F a_1.v k_2 0 _ ⟨h0, h1, h4, h5⟩ h
end
def e55 (F : Nat) : Ent := ⟨55, da (fun (x : ((On (Int × Int)) × Int × Unit)) => w_markIntA2S F x.1 x.2.1) (fun (r : (Int × NL (Int × Int))) => (.tup [Enc.enc (r.1 : Int), encO (.at pinR []) (r.2 : NL (Int × Int))])), pinR, false, selF []⟩
theorem p55 {F : Nat} {x0 : (On (Int × Int))} {x1 : Int} {r : (Int × NL (Int × Int))} (h : w_markIntA2S F x0 x1 = some r) : (e55 F).den [Arg.arg x0, Enc.enc x1] = some (.tup [Enc.enc (r.1 : Int), encO (.at pinR []) (r.2 : NL (Int × Int))]) := da_put (f := fun (x : ((On (Int × Int)) × Int × Unit)) => w_markIntA2S F x.1 x.2.1) (t := fun (r : (Int × NL (Int × Int))) => (.tup [Enc.enc (r.1 : Int), encO (.at pinR []) (r.2 : NL (Int × Int))])) (x0, x1, ()) h
theorem o55 {D : Den} {σ : Sig} {F : Nat} (hF : Fits2 Try.prog D σ) (H : H55 D σ F) : (e55 F).Ok Try.prog := by
  refine ok_of (f := 55) (show unk 55 = 55 from rfl) (fun args r h => ?_) ⟨Try.f55, Try.func55, rfl, rfl⟩
  obtain ⟨⟨x0, x1, _⟩, y, rfl, hy, rfl⟩ := da_open h
  exact contractM_run hF (by kernel_rfl) Try.func55 rfl c55 (all_ok2 ok_encP rfl) (show 2 ≤ Try.f55.ntmps by decide) (by decide) (t55 H x0 x1 _ ⟨rfl, rfl⟩ hy)
/- loop.example/g01109/laws.markGraph -/
def A21_2 : AC := (.seq (.reg [] [(.mk (some 9) none false (.v (.mov (.t 1)))), (.mk (some 4) none false (.v (.mov (.t 9))))] []) .ret)
def A21_1 : AC := (.seq (.reg [] [(.mk (some 5) none false (.v (.fld (.t 2) 1 1))), (.mk (some 6) none false (.v (.load .p (.t 5)))), (.mk (some 7) none false (.v (.mov (.t 1)))), (.mk (some 8) none false (.mark (.k (.fn 55 [] [])) [(.t 6), (.t 7)])), (.mk (some 1) none false (.v (.mov (.t 8))))] []) A21_2)
def A21 : AC := (.seq (.reg [.clr [2]] [(.mk (some 2) none false (.box (.t 0))), (.mk (some 4) none false (.v (.mov (.k (.int .i64 (.ofNat 0))))))] []) A21_1)
def an21 : List An := [{ id := 0, pre := [.clr [2]], ep := [], lin := [], sp := [] }, { id := 1, pre := [], ep := [], lin := [], sp := [3] }]
theorem c21 : cC Try.prog Try.f21.ntmps an21 (Try.f21.body.getD .skip) = some A21 := by kernel_rfl
structure H21 (D : Den) (σ : Sig) (F : Nat) : Prop where
  c55 : ∀ (x0 : (On (Int × Int))) (x1 : Int) r, w_markIntA2S F x0 x1 = some r → D 55 [Arg.arg x0, Enc.enc x1] = some (.tup [Enc.enc (r.1 : Int), encO (.at pinR []) (r.2 : NL (Int × Int))])
  g55 : σ 55 = some (pinR, false)
abbrev R21 (r : Int) : (Nat → V) → Prop := RM Try.prog [.tmp 4] (Enc.enc (r : Int)) .dead
section
variable {D : Den} {σ : Sig} {F : Nat} {r : Int}
def w_markGraph (F : Nat) (a_1 : (Og (Int × Int))) (k_2 : Int) : Option Int :=
  (w_markIntA2S F (On.mk a_1.v : (On (Int × Int))) k_2).bind fun r_3 =>
  some r_3.1
theorem t21 (H : H21 D σ F) (a_1 : (Og (Int × Int))) (k_2 : Int) (s : Nat → V) (hs : Facts [(0, (.agg [(.int .i64 a_1.a), (encO (.at pinR [1]) (a_1.v : NL (Int × Int)))])), (1, (.int .i64 k_2))] s) (h : w_markGraph F a_1 k_2 = some r) : Run D σ (R21 r) (.run A21 []) s := by
  unfold w_markGraph at h
  obtain ⟨h0, h1⟩ := hs
  refine .seq ?_
  refine run_reg ?_
  refine e_clr ?_
  refine e_end ?_
  refine g_box (.agg [(.int .i64 a_1.a), (encO (.at pinR [1]) (a_1.v : NL (Int × Int)))]) (rd_of (keep_clear (s := s) (pk := [2]) h0 rfl (map_agg (maps_cons rfl (maps_cons (map_encO (r := pinR) (p := [1]) rfl rfl) maps_nil)))) rfl) (gone_clear (s := s) (pk := [2]) (t := 2) rfl) rfl ?_
  refine g_v0 (.int .i64 0) rfl rfl ?_
  refine g_end ?_
  refine e_end ?_
  refine renew [(1, (.int .i64 k_2)), (2, (.ref (.bx 2) 0 [] (.agg [(.int .i64 a_1.a), (encO (.at pinR [1]) (a_1.v : NL (Int × Int)))]))), (4, (.int .i64 0))] ⟨(keep_clear (s := s) (pk := [2]) h1 rfl rfl), rfl, rfl⟩ ?_
  rintro s ⟨h1, h2, h4⟩
  refine .nsq ?_
  refine .seq ?_
  refine run_reg ?_
  refine e_end ?_
  refine g_v1 (t := 2) (u := (.ref (.bx 2) 0 [] (.agg [(.int .i64 a_1.a), (encO (.at pinR [1]) (a_1.v : NL (Int × Int)))]))) (.ref (.bx 2) 0 [1] (encO (.at pinR [1]) (a_1.v : NL (Int × Int)))) h2 rfl rfl ?_
  refine g_v (encO (.at pinR [1]) (a_1.v : NL (Int × Int))) (ev_loadN rfl beq_encO) ?_
  refine g_v1 (t := 1) (u := (.int .i64 k_2)) (.int .i64 k_2) h1 rfl rfl ?_
  obtain ⟨r_3, E_r_3, h⟩ := bind_some h
  refine g_mark (v := (encO (.at pinR [1]) (a_1.v : NL (Int × Int)))) rfl (canon_own (o := (a_1.v : NL (Int × Int))) rfl) (rdAll_cons (v := (.int .i64 k_2)) rfl rfl rdAll_nil) (H.c55 _ _ _ E_r_3) H.g55 rfl rfl (fun s_2 hm_2 => ?_)
  refine g_v1 (t := 8) (u := (.int .i64 r_3.1)) (.int .i64 r_3.1) rfl rfl rfl ?_
  refine g_end ?_
  refine e_end ?_
  refine renew [(1, (.int .i64 r_3.1)), (4, (.int .i64 0))] ⟨rfl, (show s_2 4 = (.int .i64 0) from hm_2 4 (.int .i64 0) (.int .i64 0) h4 (rem_map rfl rfl))⟩ ?_
  rintro s ⟨h1, h4⟩
  refine .nsq ?_
  refine .seq ?_
  refine run_reg ?_
  refine e_end ?_
  refine g_v1 (t := 1) (u := (.int .i64 r_3.1)) (.int .i64 r_3.1) h1 rfl rfl ?_
  refine g_v1 (t := 9) (u := (.int .i64 r_3.1)) (.int .i64 r_3.1) rfl rfl rfl ?_
  refine g_end ?_
  refine e_end ?_
  refine renew [(4, (.int .i64 r_3.1))] rfl ?_
  rintro s h4
  refine .nsq ?_
  refine .ret ?_
  have hr := Option.some.inj h
  subst hr
  exact rmD (res_tmp h4)
end
def e21 (F : Nat) : Ent := ⟨21, da (fun (x : ((Og (Int × Int)) × Int × Unit)) => w_markGraph F x.1 x.2.1) (fun (r : Int) => (.tup [Enc.enc (r : Int), .dead])), pinR, false, selF []⟩
theorem p21 {F : Nat} {x0 : (Og (Int × Int))} {x1 : Int} {r : Int} (h : w_markGraph F x0 x1 = some r) : (e21 F).den [Arg.arg x0, Enc.enc x1] = some (.tup [Enc.enc (r : Int), .dead]) := da_put (f := fun (x : ((Og (Int × Int)) × Int × Unit)) => w_markGraph F x.1 x.2.1) (t := fun (r : Int) => (.tup [Enc.enc (r : Int), .dead])) (x0, x1, ()) h
theorem o21 {D : Den} {σ : Sig} {F : Nat} (hF : Fits2 Try.prog D σ) (H : H21 D σ F) : (e21 F).Ok Try.prog := by
  refine ok_of (f := 21) (show unk 21 = 21 from rfl) (fun args r h => ?_) ⟨Try.f21, Try.func21, rfl, rfl⟩
  obtain ⟨⟨x0, x1, _⟩, y, rfl, hy, rfl⟩ := da_open h
  exact contractM_run hF (by kernel_rfl) Try.func21 rfl c21 (all_ok2 rfl rfl) (show 2 ≤ Try.f21.ntmps by decide) (by decide) (t21 H x0 x1 _ ⟨rfl, rfl⟩ hy)
/- loop.example/g01109/laws.markIntS -/
def A22_2 : AC := (.cond (.t 9) .skip (.exit 0))
def A22_4 : AC := (.reg [] [(.mk (some 16) none false (.v (.mov (.t 1)))), (.mk (some 17) none false (.v (.bin .add (.t 16) (.k (.int .i64 (.ofNat 1)))))), (.mk (some 1) none false (.v (.mov (.t 17))))] [])
def A22_5 : AC := (.reg [] [(.mk (some 10) none false (.v (.mov (.t 5)))), (.mk (some 11) none false (.v (.bin .add (.t 10) (.k (.int .i64 (.ofNat 1)))))), (.mk (some 5) none false (.v (.mov (.t 11))))] [])
def A22_3 : AC := (.seq (.block 1 (.seq (.reg [] [(.mk (some 12) none false (.v (.mov (.t 0)))), (.mk (some 13) none false (.v (.mov (.t 5)))), (.mk (some 14) none false (.v (.mov (.t 1)))), (.mk (some 15) none false (.v (.idx (.t 12) (.t 13) 1))), (.mk none none false (.store .s (.t 15) (.t 14)))] []) A22_4)) A22_5)
def A22_1 : AC := (.seq (.seq (.reg [] [(.mk (some 6) none false (.v (.mov (.t 5)))), (.mk (some 7) none false (.v (.mov (.t 0)))), (.mk (some 8) none false (.v (.len (.t 7)))), (.mk (some 9) none false (.v (.bin .lss (.t 6) (.t 8))))] []) A22_2) A22_3)
def A22_6 : AC := (.seq (.reg [] [(.mk (some 18) none false (.v (.mov (.t 1)))), (.mk (some 4) none false (.v (.mov (.t 18))))] []) .ret)
def A22_8 : AC := (.block 0 (.loop A22_1))
def A22_7 : AC := (.seq (.seq (.reg [] [(.mk (some 5) none false (.v (.mov (.k (.int .i64 (.ofNat 0))))))] []) A22_8) A22_6)
def A22 : AC := (.seq (.reg [] [(.mk (some 4) none false (.v (.mov (.k (.int .i64 (.ofNat 0))))))] []) A22_7)
def an22 : List An := []
theorem c22 : cC Try.prog Try.f22.ntmps an22 (Try.f22.body.getD .skip) = some A22 := by kernel_rfl
structure H22 (D : Den) (σ : Sig) (F : Nat) : Prop where
  mk ::
abbrev R22 (r : (Int × NL Int)) : (Nat → V) → Prop := RM Try.prog [.tmp 4] (Enc.enc (r.1 : Int)) (encO (.at pinR []) (r.2 : NL Int))
section
variable {D : Den} {σ : Sig} {F : Nat} {r : (Int × NL Int)}
def w_markIntS_l1 (F : Nat)   : Nat → (NL Int) → Int → Int → Option (Int × NL Int)
  | 0, _, _, _ => none
  | k + 1, a_4, k_5, i_6 =>
    bif decide (i_6 < (a_4.list.length : Int)) then
      (idx a_4.list i_6).bind fun e_8 =>
      (w_markIntS_l1 F k) (NL.set a_4 i_6.toNat k_5) (w64 (k_5 + 1)) (w64 (i_6 + 1))
    else
      some (k_5, a_4)
theorem t_f22_l1 (H : H22 D σ F)   : ∀ (k : Nat) (a_4 : (NL Int)) (k_5 : Int) (i_6 : Int) (s : Nat → V), Facts [(0, (encO (.at pinR []) (a_4 : NL Int))), (1, (.int .i64 k_5)), (4, (.int .i64 0)), (5, (.int .i64 i_6))] s → w_markIntS_l1 F k a_4 k_5 i_6 = some r → Run D σ (R22 r) (.run A22_1 [.lp A22_1, .bk 0, .sq A22_6]) s := by
  intro k
  induction k with
  | zero => intro a_4 k_5 i_6 s _ h; exact nomatch (h : (none : Option _) = some r)
  | succ k ih =>
    intro a_4 k_5 i_6 s hs h
    rw [w_markIntS_l1] at h
    obtain ⟨h0, h1, h4, h5⟩ := hs
    refine .seq ?_
    refine .seq ?_
    refine run_reg ?_
    refine e_end ?_
    refine g_v1 (t := 5) (u := (.int .i64 i_6)) (.int .i64 i_6) h5 rfl rfl ?_
    refine g_v (encO (.at pinR []) (a_4 : NL Int)) (ev_mov h0 ok_encO) ?_
    refine g_v (.int .i64 (a_4.list.length : Int)) (ev_lenO (o := a_4) rfl) ?_
    refine g_v2 (t1 := 6) (t2 := 8) (u1 := (.int .i64 i_6)) (u2 := (.int .i64 (a_4.list.length : Int))) (.bool (decide (i_6 < (a_4.list.length : Int)))) rfl rfl rfl rfl ?_
    refine g_end ?_
    refine e_end ?_
    refine renew [(0, (encO (.at pinR []) (a_4 : NL Int))), (1, (.int .i64 k_5)), (4, (.int .i64 0)), (5, (.int .i64 i_6)), (9, (.bool (decide (i_6 < (a_4.list.length : Int)))))] ⟨h0, h1, h4, h5, rfl⟩ ?_
    rintro s ⟨h0, h1, h4, h5, h9⟩
    refine .nsq ?_
    refine run_cond (t := decide (i_6 < (a_4.list.length : Int))) h9 h (fun h => ?_) (fun h => ?_)
    · refine .skip ?_
      refine .nsq ?_
      refine .seq ?_
      refine .block ?_
      refine .seq ?_
      refine run_reg ?_
      refine e_end ?_
      refine g_v (encO (.at pinR []) (a_4 : NL Int)) (ev_mov h0 ok_encO) ?_
      refine g_v1 (t := 5) (u := (.int .i64 i_6)) (.int .i64 i_6) h5 rfl rfl ?_
      refine g_v1 (t := 1) (u := (.int .i64 k_5)) (.int .i64 k_5) h1 rfl rfl ?_
      obtain ⟨e_8, E_e_8, h⟩ := bind_some h
      refine g_v (.ref (.at pinR []) i_6.toNat [] (.int .i64 e_8)) (ev_idxO (o := a_4) rfl rfl E_e_8 rfl) ?_
      refine g_store (.int .i64 k_5) (rd_of rfl rfl) (rd_of rfl rfl) (by refine ⟨by decide, by decide, rfl, rfl, rfl, ?_⟩; first | rfl | simp [V.toks, V.tokss, Enc.toks_enc]) ?_
      refine g_end ?_
      refine e_end ?_
      refine renew [(0, (encO (.at pinR []) ((NL.set a_4 i_6.toNat k_5) : NL Int))), (1, (.int .i64 k_5)), (4, (.int .i64 0)), (5, (.int .i64 i_6))] ⟨(keep_mut h0 (mut_ownN (α := Int) (u := k_5) (i := i_6.toNat) (o := a_4))), (keep_mut h1 rfl), (keep_mut h4 rfl), (keep_mut h5 rfl)⟩ ?_
      rintro s ⟨h0, h1, h4, h5⟩
      refine .nsq ?_
      refine run_reg ?_
      refine e_end ?_
      refine g_v1 (t := 1) (u := (.int .i64 k_5)) (.int .i64 k_5) h1 rfl rfl ?_
      refine g_v1 (t := 16) (u := (.int .i64 k_5)) (.int .i64 (w64 (k_5 + 1))) rfl rfl rfl ?_
      refine g_v1 (t := 17) (u := (.int .i64 (w64 (k_5 + 1)))) (.int .i64 (w64 (k_5 + 1))) rfl rfl rfl ?_
      refine g_end ?_
      refine e_end ?_
      refine renew [(0, (encO (.at pinR []) ((NL.set a_4 i_6.toNat k_5) : NL Int))), (1, (.int .i64 (w64 (k_5 + 1)))), (4, (.int .i64 0)), (5, (.int .i64 i_6))] ⟨h0, rfl, h4, h5⟩ ?_
      rintro s ⟨h0, h1, h4, h5⟩
      refine .nbk ?_
      refine .nsq ?_
      refine run_reg ?_
      refine e_end ?_
      refine g_v1 (t := 5) (u := (.int .i64 i_6)) (.int .i64 i_6) h5 rfl rfl ?_
      refine g_v1 (t := 10) (u := (.int .i64 i_6)) (.int .i64 (w64 (i_6 + 1))) rfl rfl rfl ?_
      refine g_v1 (t := 11) (u := (.int .i64 (w64 (i_6 + 1)))) (.int .i64 (w64 (i_6 + 1))) rfl rfl rfl ?_
      refine g_end ?_
      refine e_end ?_
      refine renew [(0, (encO (.at pinR []) ((NL.set a_4 i_6.toNat k_5) : NL Int))), (1, (.int .i64 (w64 (k_5 + 1)))), (4, (.int .i64 0)), (5, (.int .i64 (w64 (i_6 + 1))))] ⟨h0, h1, h4, rfl⟩ ?_
      rintro s ⟨h0, h1, h4, h5⟩
      refine .nlp ?_
      exact ih (NL.set a_4 i_6.toNat k_5) (w64 (k_5 + 1)) (w64 (i_6 + 1)) _ ⟨h0, h1, h4, h5⟩ h
    · refine .exit ?_
      refine .esq ?_
      refine .elp ?_
      refine .ebk ?_
      refine .nsq ?_
      refine .seq ?_
      refine run_reg ?_
      refine e_end ?_
      refine g_v1 (t := 1) (u := (.int .i64 k_5)) (.int .i64 k_5) h1 rfl rfl ?_
      refine g_v1 (t := 18) (u := (.int .i64 k_5)) (.int .i64 k_5) rfl rfl rfl ?_
      refine g_end ?_
      refine e_end ?_
      refine renew [(0, (encO (.at pinR []) (a_4 : NL Int))), (4, (.int .i64 k_5))] ⟨h0, rfl⟩ ?_
      rintro s ⟨h0, h4⟩
      refine .nsq ?_
      refine .ret ?_
      have hr := Option.some.inj h
      subst hr
      exact rmA (res_tmp h4) h0
def w_markIntS (F : Nat) (a_1 : (On Int)) (k_2 : Int) : Option (Int × NL Int) :=
  w_markIntS_l1 F F a_1.v k_2 0
theorem t22 (H : H22 D σ F) (a_1 : (On Int)) (k_2 : Int) (s : Nat → V) (hs : Facts [(0, (encO (.at pinR []) (a_1.v : NL Int))), (1, (.int .i64 k_2))] s) (h : w_markIntS F a_1 k_2 = some r) : Run D σ (R22 r) (.run A22 []) s := by
  unfold w_markIntS at h
  obtain ⟨h0, h1⟩ := hs
  refine .seq ?_
  refine run_reg ?_
  refine e_end ?_
  refine g_v0 (.int .i64 0) rfl rfl ?_
  refine g_end ?_
  refine e_end ?_
  refine renew [(0, (encO (.at pinR []) (a_1.v : NL Int))), (1, (.int .i64 k_2)), (4, (.int .i64 0))] ⟨h0, h1, rfl⟩ ?_
  rintro s ⟨h0, h1, h4⟩
  refine .nsq ?_
  refine .seq ?_
  refine .seq ?_
  refine run_reg ?_
  refine e_end ?_
  refine g_v0 (.int .i64 0) rfl rfl ?_
  refine g_end ?_
  refine e_end ?_
  refine renew [(0, (encO (.at pinR []) (a_1.v : NL Int))), (1, (.int .i64 k_2)), (4, (.int .i64 0)), (5, (.int .i64 0))] ⟨h0, h1, h4, rfl⟩ ?_
  rintro s ⟨h0, h1, h4, h5⟩
  refine .nsq ?_
  refine .block ?_
  refine .loop ?_
  exact t_f22_l1 H F a_1.v k_2 0 _ ⟨h0, h1, h4, h5⟩ h
end
def e22 (F : Nat) : Ent := ⟨22, da (fun (x : ((On Int) × Int × Unit)) => w_markIntS F x.1 x.2.1) (fun (r : (Int × NL Int)) => (.tup [Enc.enc (r.1 : Int), encO (.at pinR []) (r.2 : NL Int)])), pinR, false, selF []⟩
theorem p22 {F : Nat} {x0 : (On Int)} {x1 : Int} {r : (Int × NL Int)} (h : w_markIntS F x0 x1 = some r) : (e22 F).den [Arg.arg x0, Enc.enc x1] = some (.tup [Enc.enc (r.1 : Int), encO (.at pinR []) (r.2 : NL Int)]) := da_put (f := fun (x : ((On Int) × Int × Unit)) => w_markIntS F x.1 x.2.1) (t := fun (r : (Int × NL Int)) => (.tup [Enc.enc (r.1 : Int), encO (.at pinR []) (r.2 : NL Int)])) (x0, x1, ()) h
theorem o22 {D : Den} {σ : Sig} {F : Nat} (hF : Fits2 Try.prog D σ) (H : H22 D σ F) : (e22 F).Ok Try.prog := by
  refine ok_of (f := 22) (show unk 22 = 22 from rfl) (fun args r h => ?_) ⟨Try.f22, Try.func22, rfl, rfl⟩
  obtain ⟨⟨x0, x1, _⟩, y, rfl, hy, rfl⟩ := da_open h
  exact contractM_run hF (by kernel_rfl) Try.func22 rfl c22 (all_ok2 ok_encP rfl) (show 2 ≤ Try.f22.ntmps by decide) (by decide) (t22 H x0 x1 _ ⟨rfl, rfl⟩ hy)
/- loop.example/g01109/laws.heldIntS -/
def A23_2 : AC := (.cond (.t 9) .skip (.exit 0))
def A23_4 : AC := (.cond (.t 17) (.seq (.reg [] [(.mk (some 4) none false (.v (.mov (.k (.int .i64 (.negSucc 0))))))] []) .ret) .skip)
def A23_5 : AC := (.reg [] [(.mk (some 18) none false (.v (.mov (.t 1)))), (.mk (some 19) none false (.v (.bin .add (.t 18) (.k (.int .i64 (.ofNat 1)))))), (.mk (some 1) none false (.v (.mov (.t 19))))] [])
def A23_6 : AC := (.reg [] [(.mk (some 10) none false (.v (.mov (.t 5)))), (.mk (some 11) none false (.v (.bin .add (.t 10) (.k (.int .i64 (.ofNat 1)))))), (.mk (some 5) none false (.v (.mov (.t 11))))] [])
def A23_3 : AC := (.seq (.block 1 (.seq (.seq (.reg [] [(.mk (some 12) none false (.v (.mov (.t 0)))), (.mk (some 13) none false (.v (.mov (.t 5)))), (.mk (some 14) none false (.v (.idx (.t 12) (.t 13) 1))), (.mk (some 15) none false (.v (.load .s (.t 14)))), (.mk (some 16) none false (.v (.mov (.t 1)))), (.mk (some 17) none false (.v (.bin .neq (.t 15) (.t 16))))] []) A23_4) A23_5)) A23_6)
def A23_1 : AC := (.seq (.seq (.reg [] [(.mk (some 6) none false (.v (.mov (.t 5)))), (.mk (some 7) none false (.v (.mov (.t 0)))), (.mk (some 8) none false (.v (.len (.t 7)))), (.mk (some 9) none false (.v (.bin .lss (.t 6) (.t 8))))] []) A23_2) A23_3)
def A23_7 : AC := (.seq (.reg [] [(.mk (some 20) none false (.v (.mov (.t 1)))), (.mk (some 4) none false (.v (.mov (.t 20))))] []) .ret)
def A23_9 : AC := (.block 0 (.loop A23_1))
def A23_8 : AC := (.seq (.seq (.reg [] [(.mk (some 5) none false (.v (.mov (.k (.int .i64 (.ofNat 0))))))] []) A23_9) A23_7)
def A23 : AC := (.seq (.reg [] [(.mk (some 4) none false (.v (.mov (.k (.int .i64 (.ofNat 0))))))] []) A23_8)
def an23 : List An := []
theorem c23 : cC Try.prog Try.f23.ntmps an23 (Try.f23.body.getD .skip) = some A23 := by kernel_rfl
structure H23 (D : Den) (σ : Sig) (F : Nat) : Prop where
  mk ::
abbrev R23 (r : Int) : (Nat → V) → Prop := RR Try.prog [.tmp 4] 0 false (Enc.enc (r : Int))
section
variable {D : Den} {σ : Sig} {F : Nat} {r : Int}
def w_heldIntS_l1 (F : Nat) (a_1 : (List Int))  : Nat → Int → Int → Option Int
  | 0, _, _ => none
  | k + 1, k_4, i_5 =>
    bif decide (i_5 < (a_1.length : Int)) then
      (idx a_1 i_5).bind fun e_7 =>
      bif (e_7 != k_4) then
        some (-1)
      else
        (w_heldIntS_l1 F a_1 k) (w64 (k_4 + 1)) (w64 (i_5 + 1))
    else
      some k_4
theorem t_f23_l1 (H : H23 D σ F) (a_1 : (List Int))  : ∀ (k : Nat) (k_4 : Int) (i_5 : Int) (s : Nat → V), Facts [(0, (Enc.enc (a_1 : List Int))), (1, (.int .i64 k_4)), (4, (.int .i64 0)), (5, (.int .i64 i_5))] s → w_heldIntS_l1 F a_1 k k_4 i_5 = some r → Run D σ (R23 r) (.run A23_1 [.lp A23_1, .bk 0, .sq A23_7]) s := by
  intro k
  induction k with
  | zero => intro k_4 i_5 s _ h; exact nomatch (h : (none : Option _) = some r)
  | succ k ih =>
    intro k_4 i_5 s hs h
    rw [w_heldIntS_l1] at h
    obtain ⟨h0, h1, h4, h5⟩ := hs
    refine .seq ?_
    refine .seq ?_
    refine run_reg ?_
    refine e_end ?_
    refine g_v1 (t := 5) (u := (.int .i64 i_5)) (.int .i64 i_5) h5 rfl rfl ?_
    refine g_v1 (t := 0) (u := (Enc.enc (a_1 : List Int))) (Enc.enc (a_1 : List Int)) h0 rfl rfl ?_
    refine g_v (.int .i64 (a_1.length : Int)) (ev_len (xs := a_1) rfl) ?_
    refine g_v2 (t1 := 6) (t2 := 8) (u1 := (.int .i64 i_5)) (u2 := (.int .i64 (a_1.length : Int))) (.bool (decide (i_5 < (a_1.length : Int)))) rfl rfl rfl rfl ?_
    refine g_end ?_
    refine e_end ?_
    refine renew [(0, (Enc.enc (a_1 : List Int))), (1, (.int .i64 k_4)), (4, (.int .i64 0)), (5, (.int .i64 i_5)), (9, (.bool (decide (i_5 < (a_1.length : Int)))))] ⟨h0, h1, h4, h5, rfl⟩ ?_
    rintro s ⟨h0, h1, h4, h5, h9⟩
    refine .nsq ?_
    refine run_cond (t := decide (i_5 < (a_1.length : Int))) h9 h (fun h => ?_) (fun h => ?_)
    · refine .skip ?_
      refine .nsq ?_
      refine .seq ?_
      refine .block ?_
      refine .seq ?_
      refine .seq ?_
      refine run_reg ?_
      refine e_end ?_
      refine g_v1 (t := 0) (u := (Enc.enc (a_1 : List Int))) (Enc.enc (a_1 : List Int)) h0 rfl rfl ?_
      refine g_v1 (t := 5) (u := (.int .i64 i_5)) (.int .i64 i_5) h5 rfl rfl ?_
      obtain ⟨e_7, E_e_7, h⟩ := bind_some h
      refine g_v (.ref .sh 0 [] (.int .i64 e_7)) (ev_idx (t := .sh) (lo := 0) (xs := a_1) rfl rfl E_e_7 rfl rfl) ?_
      refine g_v1 (t := 14) (u := (.ref .sh 0 [] (.int .i64 e_7))) (.int .i64 e_7) rfl rfl rfl ?_
      refine g_v1 (t := 1) (u := (.int .i64 k_4)) (.int .i64 k_4) h1 rfl rfl ?_
      refine g_v2 (t1 := 15) (t2 := 16) (u1 := (.int .i64 e_7)) (u2 := (.int .i64 k_4)) (.bool (e_7 != k_4)) rfl rfl rfl rfl ?_
      refine g_end ?_
      refine e_end ?_
      refine renew [(0, (Enc.enc (a_1 : List Int))), (1, (.int .i64 k_4)), (4, (.int .i64 0)), (5, (.int .i64 i_5)), (17, (.bool (e_7 != k_4)))] ⟨h0, h1, h4, h5, rfl⟩ ?_
      rintro s ⟨h0, h1, h4, h5, h17⟩
      refine .nsq ?_
      refine run_cond (t := (e_7 != k_4)) h17 h (fun h => ?_) (fun h => ?_)
      · refine .seq ?_
        refine run_reg ?_
        refine e_end ?_
        refine g_v0 (.int .i64 (-1)) rfl rfl ?_
        refine g_end ?_
        refine e_end ?_
        refine renew [(0, (Enc.enc (a_1 : List Int))), (1, (.int .i64 k_4)), (4, (.int .i64 (-1))), (5, (.int .i64 i_5))] ⟨h0, h1, rfl, h5⟩ ?_
        rintro s ⟨h0, h1, h4, h5⟩
        refine .nsq ?_
        refine .ret ?_
        have hr := Option.some.inj h
        subst hr
        exact rrA (res_tmp h4) rfl
      · refine .skip ?_
        refine .nsq ?_
        refine run_reg ?_
        refine e_end ?_
        refine g_v1 (t := 1) (u := (.int .i64 k_4)) (.int .i64 k_4) h1 rfl rfl ?_
        refine g_v1 (t := 18) (u := (.int .i64 k_4)) (.int .i64 (w64 (k_4 + 1))) rfl rfl rfl ?_
        refine g_v1 (t := 19) (u := (.int .i64 (w64 (k_4 + 1)))) (.int .i64 (w64 (k_4 + 1))) rfl rfl rfl ?_
        refine g_end ?_
        refine e_end ?_
        refine renew [(0, (Enc.enc (a_1 : List Int))), (1, (.int .i64 (w64 (k_4 + 1)))), (4, (.int .i64 0)), (5, (.int .i64 i_5))] ⟨h0, rfl, h4, h5⟩ ?_
        rintro s ⟨h0, h1, h4, h5⟩
        refine .nbk ?_
        refine .nsq ?_
        refine run_reg ?_
        refine e_end ?_
        refine g_v1 (t := 5) (u := (.int .i64 i_5)) (.int .i64 i_5) h5 rfl rfl ?_
        refine g_v1 (t := 10) (u := (.int .i64 i_5)) (.int .i64 (w64 (i_5 + 1))) rfl rfl rfl ?_
        refine g_v1 (t := 11) (u := (.int .i64 (w64 (i_5 + 1)))) (.int .i64 (w64 (i_5 + 1))) rfl rfl rfl ?_
        refine g_end ?_
        refine e_end ?_
        refine renew [(0, (Enc.enc (a_1 : List Int))), (1, (.int .i64 (w64 (k_4 + 1)))), (4, (.int .i64 0)), (5, (.int .i64 (w64 (i_5 + 1))))] ⟨h0, h1, h4, rfl⟩ ?_
        rintro s ⟨h0, h1, h4, h5⟩
        refine .nlp ?_
        exact ih (w64 (k_4 + 1)) (w64 (i_5 + 1)) _ ⟨h0, h1, h4, h5⟩ h
    · refine .exit ?_
      refine .esq ?_
      refine .elp ?_
      refine .ebk ?_
      refine .nsq ?_
      refine .seq ?_
      refine run_reg ?_
      refine e_end ?_
      refine g_v1 (t := 1) (u := (.int .i64 k_4)) (.int .i64 k_4) h1 rfl rfl ?_
      refine g_v1 (t := 20) (u := (.int .i64 k_4)) (.int .i64 k_4) rfl rfl rfl ?_
      refine g_end ?_
      refine e_end ?_
      refine renew [(4, (.int .i64 k_4))] rfl ?_
      rintro s h4
      refine .nsq ?_
      refine .ret ?_
      have hr := Option.some.inj h
      subst hr
      exact rrA (res_tmp h4) rfl
def w_heldIntS (F : Nat) (a_1 : (List Int)) (k_2 : Int) : Option Int :=
  w_heldIntS_l1 F a_1 F k_2 0
theorem t23 (H : H23 D σ F) (a_1 : (List Int)) (k_2 : Int) (s : Nat → V) (hs : Facts [(0, (Enc.enc (a_1 : List Int))), (1, (.int .i64 k_2))] s) (h : w_heldIntS F a_1 k_2 = some r) : Run D σ (R23 r) (.run A23 []) s := by
  unfold w_heldIntS at h
  obtain ⟨h0, h1⟩ := hs
  refine .seq ?_
  refine run_reg ?_
  refine e_end ?_
  refine g_v0 (.int .i64 0) rfl rfl ?_
  refine g_end ?_
  refine e_end ?_
  refine renew [(0, (Enc.enc (a_1 : List Int))), (1, (.int .i64 k_2)), (4, (.int .i64 0))] ⟨h0, h1, rfl⟩ ?_
  rintro s ⟨h0, h1, h4⟩
  refine .nsq ?_
  refine .seq ?_
  refine .seq ?_
  refine run_reg ?_
  refine e_end ?_
  refine g_v0 (.int .i64 0) rfl rfl ?_
  refine g_end ?_
  refine e_end ?_
  refine renew [(0, (Enc.enc (a_1 : List Int))), (1, (.int .i64 k_2)), (4, (.int .i64 0)), (5, (.int .i64 0))] ⟨h0, h1, h4, rfl⟩ ?_
  rintro s ⟨h0, h1, h4, h5⟩
  refine .nsq ?_
  refine .block ?_
  refine .loop ?_
  exact t_f23_l1 H a_1 F k_2 0 _ ⟨h0, h1, h4, h5⟩ h
end
def e23 (F : Nat) : Ent := ⟨23, da (fun (x : ((List Int) × Int × Unit)) => w_heldIntS F x.1 x.2.1) (fun (r : Int) => (Enc.enc (r : Int))), 0, false, selF []⟩
theorem p23 {F : Nat} {x0 : (List Int)} {x1 : Int} {r : Int} (h : w_heldIntS F x0 x1 = some r) : (e23 F).den [Enc.enc x0, Enc.enc x1] = some (Enc.enc (r : Int)) := da_put (f := fun (x : ((List Int) × Int × Unit)) => w_heldIntS F x.1 x.2.1) (t := fun (r : Int) => (Enc.enc (r : Int))) (x0, x1, ()) h
theorem o23 {D : Den} {σ : Sig} {F : Nat} (hF : Fits2 Try.prog D σ) (H : H23 D σ F) : (e23 F).Ok Try.prog := by
  refine ok_of (f := 23) (show unk 23 = 23 from rfl) (fun args r h => ?_) ⟨Try.f23, Try.func23, rfl, rfl⟩
  obtain ⟨⟨x0, x1, _⟩, y, rfl, hy, rfl⟩ := da_open h
  exact contract_run hF (by kernel_rfl) Try.func23 rfl c23 (show 2 ≤ Try.f23.ntmps by decide) (t23 H x0 x1 _ ⟨rfl, rfl⟩ hy)
end Go.Zq
