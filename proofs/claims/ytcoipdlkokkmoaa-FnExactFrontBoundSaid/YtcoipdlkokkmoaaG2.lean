/- Functions of the program as typed functions, and that the machine runs as they say (part 2). No further condition. -/
import Derived.Test.YtcoipdlkokkmoaaK3
import Derived.Test.YtcoipdlkokkmoaaProg
import Derived.Test.YtcoipdlkokkmoaaChecked
import Derived.KernelRfl
import Derived.Test.YtcoipdlkokkmoaaG1
set_option linter.unusedVariables false
set_option linter.unusedSimpArgs false
/- Functions of the program, as typed functions, and that the machine runs as they say. -/
namespace Go.Zq
open Go.Proofs
/- (loop.example/g01109/impl.net).front -/
def A20_5 : AC := (.cond (.t 22) (.reg [] [(jm 23 5), (jm 24 7), ((jv 25 (.bin .shl (jn 1) (.t 24)))), ((jv 26 (.bin .or (.t 23) (.t 25)))), (jm 5 26)] []) .skip)
def A20_4 : AC := (.seq (.reg [] [((jv 15 (.fld (.t 2) 0 0))), ((jv 16 (.load .p (.t 15)))), (jm 17 7), ((jv 18 (.idx (.t 16) (.t 17) 1))), ((jv 19 (.load .s (.t 18)))), (jm 20 1), ((jv 21 (.bin .andNot (.t 19) (.t 20)))), ((jv 22 (.bin .neq (.t 21) (jn 0))))] []) A20_5)
def A20_6 : AC := (.reg [] [((jv 27 (.bin .add (.t 11) (jn 1)))), (jm 11 27)] [])
def A20_3 : AC := (.seq (.block 1 (.seq (.reg [] [((jv 13 (.idx (.t 9) (.t 11) 1))), ((jv 14 (.load .s (.t 13)))), (jm 7 14)] []) A20_4)) A20_6)
def A20_2 : AC := (.seq (.cond (.t 12) .skip (.exit 0)) A20_3)
def A20_1 : AC := (.seq (.reg [] [((jv 12 (.bin .lss (.t 11) (.t 10))))] []) A20_2)
def A20_7 : AC := (.seq (.reg [] [(jm 28 5), (jm 4 28)] []) .ret)
def A20_10 : AC := (.block 0 (.loop A20_1))
def A20_9 : AC := (.seq (.seq (.reg [] [(jm 8 1), (.mk (some 9) none false (.call (.k (.fn 34 [] [])) [(.t 8)])), ((jv 10 (.len (.t 9)))), ((jv 11 (.mov (jn 0))))] []) A20_10) A20_7)
def A20_8 : AC := (.seq (.reg [] [((jv 5 (.mov (jn 0))))] []) A20_9)
def A20 : AC := (.seq (.reg [.clr [2]] [(.mk (some 2) none false (.box (.t 0))), ((jv 4 (.mov (jn 0))))] []) A20_8)
def an20 : List An := [{ id := 0, pre := [.clr [2]], ep := [], lin := [], sp := [] }]
theorem c20 : cC Try.prog Try.f20.ntmps an20 (Try.f20.body.getD .skip) = some A20 := by kernel_rfl
structure H20 (D : Den) (σ : Sig) (F : Nat) : Prop where
  c34 : ∀ (x0 : Int) r, i_setOf F x0 = some r → D 34 [Enc.enc x0] = some (Enc.enc (r : (List Int)))
  g34 : σ 34 = some (0, false)
abbrev R20 (r : Int) : (Nat → V) → Prop := RR Try.prog [.tmp 4] 0 false (Enc.enc (r : Int))
section
variable {D : Den} {σ : Sig} {F : Nat} {r : Int}
def i_net_front_j1 (F : Nat) (x_2 : Int) (x_1 : (S1 (List Int))) (r_3 : (List Int)) (x_10 : Int) (c1 : Int → Int → Option Int) (x_19 : Int) : Option Int :=
  c1 x_19 (w64 (x_10 + 1))
theorem t_f20_j1 (H : H20 D σ F) (x_2 : Int) (x_1 : (S1 (List Int))) (r_3 : (List Int)) (x_10 : Int) (c1 : Int → Int → Option Int) (Hc1 : ∀ (x_9 : Int) (x_10 : Int) (s : Nat → V), Facts [(1, (ji x_2)), (2, (.ref (.bx 2) 0 [] (.agg [(eL x_1.a)]))), (4, (ji 0)), (5, (ji x_9)), (9, (eL r_3)), (10, (ji (r_3.length : Int))), (11, (ji x_10))] s → c1 x_9 x_10 = some r → Run D σ (R20 r) (.run A20_1 [.lp A20_1, .bk 0, .sq A20_7]) s) (x_19 : Int) (s : Nat → V) (hs : Facts [(1, (ji x_2)), (2, (.ref (.bx 2) 0 [] (.agg [(eL x_1.a)]))), (4, (ji 0)), (5, (ji x_19)), (9, (eL r_3)), (10, (ji (r_3.length : Int))), (11, (ji x_10))] s) (h : i_net_front_j1 F x_2 x_1 r_3 x_10 c1 x_19 = some r) : Run D σ (R20 r) (.nrm [.bk 1, .sq A20_6, .lp A20_1, .bk 0, .sq A20_7]) s := by
  unfold i_net_front_j1 at h
  obtain ⟨h1, h2, h4, h5, h9, h10, h11⟩ := hs
  refine .nbk (.nsq (rg (g1 11 (ji (w64 (x_10 + 1))) h11 fun h27 => ?_)))
  refine gm h27 fun h11 => gq (.nlp ?_)
  exact Hc1 x_19 (w64 (x_10 + 1)) _ ⟨h1, h2, h4, h5, h9, h10, h11⟩ h
def i_net_front_l1 (F : Nat) (x_2 : Int) (x_1 : (S1 (List Int))) (r_3 : (List Int))  : Nat → Int → Int → Option Int
  | 0, _, _ => none
  | k + 1, x_9, x_10 =>
    bif decide (x_10 < (r_3.length : Int)) then
      (idx r_3 x_10).bind fun e_16 =>
      (idx x_1.a e_16).bind fun e_17 =>
      bif ((iandNot .i64 e_17 x_2) != 0) then
        (shlI .i64 1 e_16).bind fun q_20 =>
        i_net_front_j1 F x_2 x_1 r_3 x_10 (i_net_front_l1 F x_2 x_1 r_3 k) (ior .i64 x_9 q_20)
      else
        i_net_front_j1 F x_2 x_1 r_3 x_10 (i_net_front_l1 F x_2 x_1 r_3 k) x_9
    else
      some x_9
theorem t_f20_l1 (H : H20 D σ F) (x_2 : Int) (x_1 : (S1 (List Int))) (r_3 : (List Int))  : ∀ (k : Nat) (x_9 : Int) (x_10 : Int) (s : Nat → V), Facts [(1, (ji x_2)), (2, (.ref (.bx 2) 0 [] (.agg [(eL x_1.a)]))), (4, (ji 0)), (5, (ji x_9)), (9, (eL r_3)), (10, (ji (r_3.length : Int))), (11, (ji x_10))] s → i_net_front_l1 F x_2 x_1 r_3 k x_9 x_10 = some r → Run D σ (R20 r) (.run A20_1 [.lp A20_1, .bk 0, .sq A20_7]) s := by
  intro k
  induction k with
  | zero => intro x_9 x_10 s _ h; exact nomatch (h : (none : Option _) = some r)
  | succ k ih =>
    intro x_9 x_10 s hs h
    rw [i_net_front_l1] at h
    obtain ⟨h1, h2, h4, h5, h9, h10, h11⟩ := hs
    refine .seq (rg (g2 11 10 (jb (decide (x_10 < (r_3.length : Int)))) h11 h10 fun h12 => ?_))
    refine gq (.nsq (.seq (run_cond (t := decide (x_10 < (r_3.length : Int))) h12 h (fun h => ?_) (fun h => ?_))))
    · refine .skip (.nsq (.seq (.block (.seq (rg ?_)))))
      obtain ⟨e_16, E_e_16, h⟩ := bind_some h
      refine gv (.ref .sh 0 [] (ji e_16)) (ev_idx (t := .sh) (lo := 0) (xs := r_3) h9 h11 E_e_16 rfl rfl) fun h13 => ?_
      refine g1 13 (ji e_16) h13 fun h14 => ?_
      refine gm h14 fun h7 => gq (.nsq (.seq (rg (g1 2 (.ref (.bx 2) 0 [0] (eL x_1.a)) h2 fun h15 => ?_))))
      refine g1 15 (eL x_1.a) h15 fun h16 => ?_
      refine gm h7 fun h17 => ?_
      obtain ⟨e_17, E_e_17, h⟩ := bind_some h
      refine gv (.ref .sh 0 [] (ji e_17)) (ev_idx (t := .sh) (lo := 0) (xs := x_1.a) h16 h17 E_e_17 rfl rfl) fun h18 => ?_
      refine g1 18 (ji e_17) h18 fun h19 => ?_
      refine gm h1 fun h20 => g2 19 20 (ji (iandNot .i64 e_17 x_2)) h19 h20 fun h21 => ?_
      refine g1 21 (jb ((iandNot .i64 e_17 x_2) != 0)) h21 fun h22 => ?_
      refine gq (.nsq (run_cond (t := ((iandNot .i64 e_17 x_2) != 0)) h22 h (fun h => ?_) (fun h => ?_)))
      · refine rg (gm h5 fun h23 => gm h7 fun h24 => ?_)
        obtain ⟨q_20, E_q_20, h⟩ := bind_some h
        refine gv (ji q_20) (ev_shl rfl h24 E_q_20) fun h25 => ?_
        refine g2 23 25 (ji (ior .i64 x_9 q_20)) h23 h25 fun h26 => ?_
        refine gm h26 fun h5 => gq ?_
        exact t_f20_j1 H x_2 x_1 r_3 x_10 (i_net_front_l1 F x_2 x_1 r_3 k) ih (ior .i64 x_9 q_20) _ ⟨h1, h2, h4, h5, h9, h10, h11⟩ h
      refine .skip ?_
      exact t_f20_j1 H x_2 x_1 r_3 x_10 (i_net_front_l1 F x_2 x_1 r_3 k) ih x_9 _ ⟨h1, h2, h4, h5, h9, h10, h11⟩ h
    refine .exit (.esq (.elp (.ebk (.nsq (.seq (rg (gm h5 fun h28 => gm h28 fun h4 => gq (.nsq (.ret ?_)))))))))
    have hr := Option.some.inj h
    subst hr
    exact rrA (res_tmp h4) rfl
def i_net_front (F : Nat) (x_1 : (S1 (List Int))) (x_2 : Int) : Option Int :=
  (i_setOf F x_2).bind fun r_3 =>
  i_net_front_l1 F x_2 x_1 r_3 F 0 0
theorem t20 (H : H20 D σ F) (x_1 : (S1 (List Int))) (x_2 : Int) (s : Nat → V) (hs : Facts [(0, (.agg [(eL x_1.a)])), (1, (ji x_2))] s) (h : i_net_front F x_1 x_2 = some r) : Run D σ (R20 r) (.run A20 []) s := by
  unfold i_net_front at h
  obtain ⟨h0, h1⟩ := hs
  refine .seq (run_reg ?_)
  refine e_clr ?_
  refine ez [(0, _), (1, _), (2, _)] ⟨(keep_clear (pk := [2]) h0 rfl (map_agg (maps_cons me maps_nil))), (keep_clear (pk := [2]) h1 rfl mi), (gone_clear (pk := [2]) (t := 2) rfl)⟩ ?_
  rintro s ⟨h0, h1, h2⟩
  refine g_box (.agg [(eL x_1.a)]) (rd_of h0 rfl) h2 rfl ?_
  refine g0 (ji 0) fun h4 => gq (.nsq (.seq (rg (g0 (ji 0) fun h5 => gq (.nsq (.seq (.seq (rg (gm h1 fun h8 => ?_)))))))))
  obtain ⟨r_3, E_r_3, h⟩ := bind_some h
  refine g_call (m := 0) (al := false) (r := (Enc.enc (r_3 : (List Int)))) [Enc.enc (x_2 : Int)] (ta_cons (v := (ji x_2)) h8 rfl rfl ta_nil) (H.c34 _ _ E_r_3) H.g34 rfl rfl rfl rfl ?_
  refine gv (ji (r_3.length : Int)) (ev_len (xs := r_3) rfl) fun h10 => ?_
  refine g0 (ji 0) fun h11 => gq (.nsq (.block (.loop ?_)))
  exact t_f20_l1 H x_2 x_1 r_3 F 0 0 _ ⟨h1, rfl, h4, h5, rfl, h10, h11⟩ h
end
def e20 (F : Nat) : Ent := ent 20 (fun (x : ((S1 (List Int)) × Int × Unit)) => i_net_front F x.1 x.2.1) (fun (r : Int) => (Enc.enc (r : Int))) 0 false []
theorem p20 {F : Nat} {x0 : (S1 (List Int))} {x1 : Int} {r : Int} (h : i_net_front F x0 x1 = some r) : (e20 F).den [Enc.enc x0, Enc.enc x1] = some (Enc.enc (r : Int)) := ent_put (x0, x1, ()) h
theorem o20 {D : Den} {σ : Sig} {F : Nat} (hF : Fits2 Try.prog D σ) (H : H20 D σ F) : (e20 F).Ok Try.prog := by
  refine ok_of (f := 20) (show unk 20 = 20 from rfl) (fun args r h => ?_) ⟨Try.f20, Try.func20, rfl, rfl⟩
  obtain ⟨⟨x0, x1, _⟩, y, rfl, hy, rfl⟩ := da_open h
  exact contract_run hF (by kernel_rfl) Try.func20 rfl c20 (show 2 ≤ Try.f20.ntmps by decide) (t20 H x0 x1 _ ⟨rfl, rfl⟩ hy)
/- slices.Repeat[[]int,int] -/
def A17o_2 : AC := (.cond (.t 37) .skip (.exit 0))
def A17o_3 : AC := (.block 1 (.reg [] [(jm 38 8), (jm 39 7), (jm 40 8), ((jv 41 (.slice (.t 39) (some (.t 40)) none 1))), (jm 42 7), (jm 43 8), ((jv 44 (.slice (.t 42) none (some (.t 43)) 1))), (.mk (some 45) none false (.copy (.t 41) (.t 44))), ((jv 46 (.bin .add (.t 38) (.t 45)))), (jm 8 46)] []))
def A17o_1 : AC := (.seq (.seq (.reg [] [(jm 34 8), (jm 35 7), ((jv 36 (.len (.t 35)))), ((jv 37 (.bin .lss (.t 34) (.t 36))))] []) A17o_2) A17o_3)
def A17o_4 : AC := (.seq (.reg [] [(jm 47 7), (jm 4 47)] [.home 7 4]) .ret)
def A17o_5 : AC := (.cond (.t 26) (.reg [] [(.mk none none false (.v (.un .not (.k .dead))))] []) .skip)
def A17o_8 : AC := (.seq (.block 0 (.loop A17o_1)) A17o_4)
def A17o_7 : AC := (.seq (.reg [] [(jm 31 7), (jm 32 0), (.mk (some 33) none false (.copy (.t 31) (.t 32))), (jm 8 33)] []) A17o_8)
def A17o_6 : AC := (.seq (.reg [.clr [30]] [(jm 28 6), ((jv 29 (.conv .i64 (.t 28)))), (.mk (some 30) none false (.mk (.t 29) (.int .i64 (.ofNat 0)) (.int .i64 (.ofNat 0)))), (jm 7 30)] [.home 30 7]) A17o_7)
def A17o_10 : AC := (.cond (.t 10) (.reg [] [(.mk none none false (.v (.un .not (.k .dead))))] []) .skip)
def A17o_12 : AC := (.seq (.seq (.reg [] [(jm 21 5), ((jv 22 (.bin .gtr (.t 21) (.k (.int .u64 (.ofNat 0)))))), (jm 23 22), ((jg 24 23 false (.mov (.t 6)))), ((jg 25 23 false (.bin .gtr (.t 24) (.k (.int .u64 (.ofNat 9223372036854775807)))))), ((jv 26 (.pick (.t 23) (.k (.bool true)) (.t 25))))] []) A17o_5) A17o_6)
def A17o_11 : AC := (.seq (.reg [] [(jm 13 0), ((jv 14 (.len (.t 13)))), ((jv 15 (.conv .u64 (.t 14)))), (jm 16 1), ((jv 17 (.conv .u64 (.t 16)))), (.mk (some 18) none false (.call (.k (.fn 31 [] [])) [(.t 15), (.t 17)])), (jm 12 18), ((jv 19 (.extS (.t 12) 0))), ((jv 20 (.extS (.t 12) 1))), (jm 5 19), (jm 6 20)] []) A17o_12)
def A17o_9 : AC := (.seq (.seq (.reg [] [(jm 9 1), ((jv 10 (.bin .lss (.t 9) (jn 0))))] []) A17o_10) A17o_11)
def A17o : AC := (.seq (.reg [] [((jv 4 (.mov (.k (.sl .nl .s 0 [])))))] []) A17o_9)
def an17o : List An := [{ id := 6, pre := [.clr [30]], ep := [.home 30 7], lin := [], sp := [] }, { id := 10, pre := [], ep := [.home 7 4], lin := [], sp := [] }]
theorem c17o : cC Try.prog Try.f17.ntmps an17o (Try.f17.body.getD .skip) = some A17o := by kernel_rfl
structure H17o (D : Den) (σ : Sig) (F : Nat) : Prop where
  c31 : ∀ (x0 : (Kd .u64)) (x1 : (Kd .u64)) r, bits_Mul F x0 x1 = some r → D 31 [Enc.enc x0, Enc.enc x1] = some (.tup [Enc.enc (r.1 : (Kd .u64)), Enc.enc (r.2 : (Kd .u64))])
  g31 : σ 31 = some (0, false)
abbrev R17o (r : (NL Int)) : (Nat → V) → Prop := RR Try.prog [.tmp 4] 1 false (encO .sh (r : NL Int))
section
variable {D : Den} {σ : Sig} {F : Nat} {r : (NL Int)}
def slices_Repeat_o_l1 (F : Nat)   : Nat → (List Int) → Int → Option (NL Int)
  | 0, _, _ => none
  | k + 1, x_8, x_9 =>
    bif decide (x_9 < (x_8.length : Int)) then
      (sub x_8 x_9 (x_8.length : Int)).bind fun sub_12 =>
      (sub x_8 0 x_9).bind fun sub_13 =>
      (slices_Repeat_o_l1 F k) (cpyL x_8 (Int.toNat x_9) (sub_13.take sub_12.length)) (w64 (x_9 + ((min sub_13.length sub_12.length : Nat) : Int)))
    else
      some (.of x_8)
theorem t_f17o_l1 (H : H17o D σ F)   : ∀ (k : Nat) (x_8 : (List Int)) (x_9 : Int) (s : Nat → V), Facts [(4, (.sl .nl (Enc.shp Int) 0 [])), (7, (oI 7 [] (.of x_8))), (8, (ji x_9))] s → slices_Repeat_o_l1 F k x_8 x_9 = some r → Run D σ (R17o r) (.run A17o_1 [.lp A17o_1, .bk 0, .sq A17o_4]) s := by
  intro k
  induction k with
  | zero => intro x_8 x_9 s _ h; exact nomatch (h : (none : Option _) = some r)
  | succ k ih =>
    intro x_8 x_9 s hs h
    rw [slices_Repeat_o_l1] at h
    obtain ⟨h4, h7, h8⟩ := hs
    refine .seq (.seq (rg (gm h8 fun h34 => gm h7 fun h35 => gv (ji (x_8.length : Int)) (ev_lenO (o := .of x_8) h35) fun h36 => ?_)))
    refine g2 34 36 (jb (decide (x_9 < (x_8.length : Int)))) h34 h36 fun h37 => ?_
    refine gq (.nsq (run_cond (t := decide (x_9 < (x_8.length : Int))) h37 h (fun h => ?_) (fun h => ?_)))
    · refine .skip (.nsq (.block (rg (gm h8 fun h38 => gm h7 fun h39 => gm h8 fun h40 => ?_))))
      obtain ⟨sub_12, E_sub_12, h⟩ := bind_some h
      refine gv (.sl (.at 7 []) (Enc.shp Int) (Int.toNat x_9) ((sub_12 : List Int).map Enc.enc)) (ev_sliceO (xs := x_8) h39 (optI_some h40) (optI_none) E_sub_12 rfl) fun h41 => ?_
      refine gm h7 fun h42 => gm h8 fun h43 => ?_
      obtain ⟨sub_13, E_sub_13, h⟩ := bind_some h
      refine gv (.sl (.at 7 []) (Enc.shp Int) (Int.toNat 0) ((sub_13 : List Int).map Enc.enc)) (ev_sliceO (xs := x_8) h42 (optI_none) (optI_some h43) E_sub_13 rfl) fun h44 => ?_
      refine g_copy (r := 7) (p := []) (lo := (Int.toNat x_9)) (t2 := (.at 7 [])) (lo2 := (Int.toNat 0)) sub_12 sub_13 h41 h44 ?_
      refine g2 38 45 (ji (w64 (x_9 + ((min sub_13.length sub_12.length : Nat) : Int)))) (keep_copy _ _ _ h38 (fun _ _ => rfl)) (rfl : (_ : V) = (ji ((min sub_13.length sub_12.length : Nat) : Int))) fun h46 => ?_
      refine gm h46 fun h8 => gz [(4, (.sl .nl (Enc.shp Int) 0 [])), (7, (oI 7 [] (.of (cpyL x_8 (Int.toNat x_9) (sub_13.take sub_12.length))))), (8, _)] ⟨(keep_copy _ _ _ h4 (fun _ _ => rfl)), (keep_copyO (sub_13.take sub_12.length) (Int.toNat x_9) _ ((.of x_8) : NL Int) h7), h8⟩ ?_
      rintro s ⟨h4, h7, h8⟩
      refine .nbk (.nlp ?_)
      exact ih (cpyL x_8 (Int.toNat x_9) (sub_13.take sub_12.length)) (w64 (x_9 + ((min sub_13.length sub_12.length : Nat) : Int))) _ ⟨h4, h7, h8⟩ h
    refine .exit (.esq (.elp (.ebk (.nsq (.seq (rg (gm h7 fun h47 => gm h47 fun h4 => g_end ?_)))))))
    refine e_home (r := 7) (x := 4) (v := _) h4 rfl (fun s_3 hg_3 => ?_)
    refine ez [(4, (oI 4 [] (.of x_8)))] (hg_3 4 _ _ h4 (map_encO (r := 7) (p := []) rfl rfl)) ?_
    rintro s h4
    refine .nsq (.ret ?_)
    have hr := Option.some.inj h
    subst hr
    exact rrA (res_tmp h4) (fin_retO (finO_own (o := ((.of x_8) : NL Int))) rfl (mine_own rfl))
def slices_Repeat_o_j1 (F : Nat) (x_1 : (List Int)) (r_3 : ((Kd .u64) × (Kd .u64)))  (x_4 : Bool) : Option (NL Int) :=
  bif x_4 then
    none
  else
    (mkN (w64 r_3.2.v) (0 : Int)).bind fun mk_5 =>
    slices_Repeat_o_l1 F F (cpyL mk_5 0 (x_1.take mk_5.length)) ((min x_1.length mk_5.length : Nat) : Int)
theorem t_f17o_j1 (H : H17o D σ F) (x_1 : (List Int)) (r_3 : ((Kd .u64) × (Kd .u64)))  (x_4 : Bool) (s : Nat → V) (hs : Facts [(0, (eL x_1)), (4, (.sl .nl (Enc.shp Int) 0 [])), (6, (.int .u64 r_3.2.v)), (26, (jb x_4))] s) (h : slices_Repeat_o_j1 F x_1 r_3  x_4 = some r) : Run D σ (R17o r) (.nrm [.sq A17o_5, .sq A17o_6]) s := by
  unfold slices_Repeat_o_j1 at h
  obtain ⟨h0, h4, h6, h26⟩ := hs
  refine .nsq (run_cond (t := x_4) h26 h (fun h => ?_) (fun h => ?_))
  · cases h
  refine .skip (.nsq (.seq (run_reg ?_)))
  refine e_clr ?_
  refine ez [(0, _), (4, _), (6, _), (30, _)] ⟨(keep_clear (pk := [30]) h0 rfl me), (keep_clear (pk := [30]) h4 rfl rfl), (keep_clear (pk := [30]) h6 rfl mi), (gone_clear (pk := [30]) (t := 30) rfl)⟩ ?_
  rintro s ⟨h0, h4, h6, h30⟩
  refine gm h6 fun h28 => g1 28 (ji (w64 r_3.2.v)) h28 fun h29 => ?_
  obtain ⟨mk_5, E_mk_5, h⟩ := bind_some h
  refine g_mk (0 : Int) h29 rfl h30 E_mk_5 ?_
  refine gm (rfl : (_ : V) = (oI 30 [] (.of mk_5))) fun h7 => ?_
  refine g_end ?_
  refine e_home (r := 30) (x := 7) (v := _) h7 rfl (fun s_2 hg_2 => ?_)
  refine ez [(0, (eL x_1)), (4, (.sl .nl (Enc.shp Int) 0 [])), (7, (oI 7 [] (.of mk_5)))] ⟨(hg_2 0 _ _ h0 me), (hg_2 4 _ (.sl .nl (Enc.shp Int) 0 []) h4 rfl), (hg_2 7 _ _ h7 (map_encO (r := 30) (p := []) rfl rfl))⟩ ?_
  rintro s ⟨h0, h4, h7⟩
  refine .nsq (.seq (rg (gm h7 fun h31 => gm h0 fun h32 => g_copy (r := 7) (p := []) (lo := 0) (t2 := .sh) (lo2 := 0) mk_5 x_1 h31 h32 ?_)))
  refine gm (rfl : (_ : V) = (ji ((min x_1.length mk_5.length : Nat) : Int))) fun h8 => ?_
  refine gz [(4, (.sl .nl (Enc.shp Int) 0 [])), (7, (oI 7 [] (.of (cpyL mk_5 0 (x_1.take mk_5.length))))), (8, _)] ⟨(keep_copy _ _ _ h4 (fun _ _ => rfl)), (keep_copyO (x_1.take mk_5.length) 0 _ ((.of mk_5) : NL Int) h7), h8⟩ ?_
  rintro s ⟨h4, h7, h8⟩
  refine .nsq (.seq (.block (.loop ?_)))
  exact t_f17o_l1 H F (cpyL mk_5 0 (x_1.take mk_5.length)) ((min x_1.length mk_5.length : Nat) : Int) _ ⟨h4, h7, h8⟩ h
def slices_Repeat_o (F : Nat) (x_1 : (List Int)) (x_2 : Int) : Option (NL Int) :=
  bif decide (x_2 < 0) then
    none
  else
    (bits_Mul F (Kd.mk (IntKind.u64.wrap (x_1.length : Int)) : Kd .u64) (Kd.mk (IntKind.u64.wrap x_2) : Kd .u64)).bind fun r_3 =>
    bif decide (r_3.1.v > 0) then
      slices_Repeat_o_j1 F x_1 r_3 true
    else
      slices_Repeat_o_j1 F x_1 r_3 (decide (r_3.2.v > 9223372036854775807))
theorem t17o (H : H17o D σ F) (x_1 : (List Int)) (x_2 : Int) (s : Nat → V) (hs : Facts [(0, (eL x_1)), (1, (ji x_2))] s) (h : slices_Repeat_o F x_1 x_2 = some r) : Run D σ (R17o r) (.run A17o []) s := by
  unfold slices_Repeat_o at h
  obtain ⟨h0, h1⟩ := hs
  refine .seq (rg (g0 (.sl .nl (Enc.shp Int) 0 []) fun h4 => ?_))
  refine gq (.nsq (.seq (.seq (rg (gm h1 fun h9 => g1 9 (jb (decide (x_2 < 0))) h9 fun h10 => ?_)))))
  refine gq (.nsq (run_cond (t := decide (x_2 < 0)) h10 h (fun h => ?_) (fun h => ?_)))
  · cases h
  refine .skip (.nsq (.seq (rg (gm h0 fun h13 => gv (ji (x_1.length : Int)) (ev_len (xs := x_1) h13) fun h14 => ?_))))
  refine g1 14 (.int .u64 (IntKind.u64.wrap (x_1.length : Int))) h14 fun h15 => ?_
  refine gm h1 fun h16 => g1 16 (.int .u64 (IntKind.u64.wrap x_2)) h16 fun h17 => ?_
  obtain ⟨r_3, E_r_3, h⟩ := bind_some h
  refine g_call (m := 0) (al := false) (r := (.tup [Enc.enc (r_3.1 : (Kd .u64)), Enc.enc (r_3.2 : (Kd .u64))])) [Enc.enc ((Kd.mk (IntKind.u64.wrap (x_1.length : Int)) : Kd .u64) : (Kd .u64)), Enc.enc ((Kd.mk (IntKind.u64.wrap x_2) : Kd .u64) : (Kd .u64))] (ta_cons (v := (.int .u64 (IntKind.u64.wrap (x_1.length : Int)))) h15 rfl rfl (ta_cons (v := (.int .u64 (IntKind.u64.wrap x_2))) h17 rfl rfl ta_nil)) (H.c31 _ _ _ E_r_3) H.g31 rfl rfl rfl rfl ?_
  refine gm (rfl : (_ : V) = (.tup [(.int .u64 r_3.1.v), (.int .u64 r_3.2.v)])) fun h12 => ?_
  refine g1 12 (.int .u64 r_3.1.v) h12 fun h19 => ?_
  refine g1 12 (.int .u64 r_3.2.v) h12 fun h20 => ?_
  refine gm h19 fun h5 => gm h20 fun h6 => gq (.nsq (.seq (.seq (rg (gm h5 fun h21 => g1 21 (jb (decide (r_3.1.v > 0))) h21 fun h22 => ?_)))))
  refine gm h22 fun h23 => split_on (c := decide (r_3.1.v > 0)) h (fun hg3 h => ?_) (fun hg3 h => ?_)
  · refine g_no (h23.trans (congrArg V.bool hg3)) ?_
    refine g_no (h23.trans (congrArg V.bool hg3)) ?_
    refine g2 23 25 (jb true) (h23.trans (congrArg V.bool hg3)) (rfl : (_ : V) = (.tup [])) fun h26 => ?_
    refine gq ?_
    exact t_f17o_j1 H x_1 r_3 true _ ⟨h0, h4, h6, h26⟩ h
  refine g_yes (h23.trans (congrArg V.bool hg3)) (gm h6 fun h24 => ?_)
  refine g_yes (h23.trans (congrArg V.bool hg3)) (g1 24 (jb (decide (r_3.2.v > 9223372036854775807))) h24 fun h25 => ?_)
  refine g2 23 25 (jb (decide (r_3.2.v > 9223372036854775807))) (h23.trans (congrArg V.bool hg3)) h25 fun h26 => ?_
  refine gq ?_
  exact t_f17o_j1 H x_1 r_3 (decide (r_3.2.v > 9223372036854775807)) _ ⟨h0, h4, h6, h26⟩ h
end
def e17o (F : Nat) : Ent := ent 1000000017 (fun (x : ((List Int) × Int × Unit)) => slices_Repeat_o F x.1 x.2.1) (fun (r : (NL Int)) => (encO .sh (r : NL Int))) 1 false []
theorem p17o {F : Nat} {x0 : (List Int)} {x1 : Int} {r : (NL Int)} (h : slices_Repeat_o F x0 x1 = some r) : (e17o F).den [Enc.enc x0, Enc.enc x1] = some (encO .sh (r : NL Int)) := ent_put (x0, x1, ()) h
theorem o17o {D : Den} {σ : Sig} {F : Nat} (hF : Fits2 Try.prog D σ) (H : H17o D σ F) : (e17o F).Ok Try.prog := by
  refine ok_of (f := 17) (show unk 1000000017 = 17 from rfl) (fun args r h => ?_) ⟨Try.f17, Try.func17, rfl, rfl⟩
  obtain ⟨⟨x0, x1, _⟩, y, rfl, hy, rfl⟩ := da_open h
  exact contract_run hF (by kernel_rfl) Try.func17 rfl c17o (show 2 ≤ Try.f17.ntmps by decide) (t17o H x0 x1 _ ⟨rfl, rfl⟩ hy)
/- slices.Max[[]int,int] -/
def A21_2 : AC := (.cond (.t 15) .skip (.exit 0))
def A21_4 : AC := (.reg [] [(jm 16 4), ((jv 17 (.bin .add (.t 16) (jn 1)))), (jm 4 17)] [])
def A21_3 : AC := (.seq (.block 1 (.reg [] [(jm 18 3), (jm 19 0), (jm 20 4), ((jv 21 (.idx (.t 19) (.t 20) 1))), ((jv 22 (.load .s (.t 21)))), ((jv 23 (.mx [(.t 18), (.t 22)]))), (jm 3 23)] [])) A21_4)
def A21_1 : AC := (.seq (.seq (.reg [] [(jm 12 4), (jm 13 0), ((jv 14 (.len (.t 13)))), ((jv 15 (.bin .lss (.t 12) (.t 14))))] []) A21_2) A21_3)
def A21_5 : AC := (.seq (.reg [] [(jm 24 3), (jm 2 24)] []) .ret)
def A21_7 : AC := (.cond (.t 7) (.reg [] [(.mk none none false (.v (.un .not (.k .dead))))] []) .skip)
def A21_10 : AC := (.block 0 (.loop A21_1))
def A21_9 : AC := (.seq (.seq (.reg [] [((jv 4 (.mov (jn 1))))] []) A21_10) A21_5)
def A21_8 : AC := (.seq (.reg [] [(jm 9 0), ((jv 10 (.idx (.t 9) (jn 0) 1))), ((jv 11 (.load .s (.t 10)))), (jm 3 11)] []) A21_9)
def A21_6 : AC := (.seq (.seq (.reg [] [(jm 5 0), ((jv 6 (.len (.t 5)))), ((jv 7 (.bin .lss (.t 6) (jn 1))))] []) A21_7) A21_8)
def A21 : AC := (.seq (.reg [] [((jv 2 (.mov (jn 0))))] []) A21_6)
def an21 : List An := []
theorem c21 : cC Try.prog Try.f21.ntmps an21 (Try.f21.body.getD .skip) = some A21 := by kernel_rfl
structure H21 (D : Den) (σ : Sig) (F : Nat) : Prop where
  mk ::
abbrev R21 (r : Int) : (Nat → V) → Prop := RR Try.prog [.tmp 2] 0 false (Enc.enc (r : Int))
section
variable {D : Den} {σ : Sig} {F : Nat} {r : Int}
def slices_Max_l1 (F : Nat) (x_1 : (List Int))  : Nat → Int → Int → Option Int
  | 0, _, _ => none
  | k + 1, m_4, x_5 =>
    bif decide (x_5 < (x_1.length : Int)) then
      (idx x_1 x_5).bind fun e_7 =>
      (slices_Max_l1 F x_1 k) (if e_7 > m_4 then e_7 else m_4) (w64 (x_5 + 1))
    else
      some m_4
theorem t_f21_l1 (H : H21 D σ F) (x_1 : (List Int))  : ∀ (k : Nat) (m_4 : Int) (x_5 : Int) (s : Nat → V), Facts [(0, (eL x_1)), (2, (ji 0)), (3, (ji m_4)), (4, (ji x_5))] s → slices_Max_l1 F x_1 k m_4 x_5 = some r → Run D σ (R21 r) (.run A21_1 [.lp A21_1, .bk 0, .sq A21_5]) s := by
  intro k
  induction k with
  | zero => intro m_4 x_5 s _ h; exact nomatch (h : (none : Option _) = some r)
  | succ k ih =>
    intro m_4 x_5 s hs h
    rw [slices_Max_l1] at h
    obtain ⟨h0, h2, h3, h4⟩ := hs
    refine .seq (.seq (rg (gm h4 fun h12 => gm h0 fun h13 => gv (ji (x_1.length : Int)) (ev_len (xs := x_1) h13) fun h14 => ?_)))
    refine g2 12 14 (jb (decide (x_5 < (x_1.length : Int)))) h12 h14 fun h15 => ?_
    refine gq (.nsq (run_cond (t := decide (x_5 < (x_1.length : Int))) h15 h (fun h => ?_) (fun h => ?_)))
    · refine .skip (.nsq (.seq (.block (rg (gm h3 fun h18 => gm h0 fun h19 => gm h4 fun h20 => ?_)))))
      obtain ⟨e_7, E_e_7, h⟩ := bind_some h
      refine gv (.ref .sh 0 [] (ji e_7)) (ev_idx (t := .sh) (lo := 0) (xs := x_1) h19 h20 E_e_7 rfl rfl) fun h21 => ?_
      refine g1 21 (ji e_7) h21 fun h22 => ?_
      refine g2 18 22 (ji (if e_7 > m_4 then e_7 else m_4)) h18 h22 fun h23 => ?_
      refine gm h23 fun h3 => gq (.nbk (.nsq (rg (gm h4 fun h16 => g1 16 (ji (w64 (x_5 + 1))) h16 fun h17 => ?_))))
      refine gm h17 fun h4 => gq (.nlp ?_)
      exact ih (if e_7 > m_4 then e_7 else m_4) (w64 (x_5 + 1)) _ ⟨h0, h2, h3, h4⟩ h
    refine .exit (.esq (.elp (.ebk (.nsq (.seq (rg (gm h3 fun h24 => gm h24 fun h2 => gq (.nsq (.ret ?_)))))))))
    have hr := Option.some.inj h
    subst hr
    exact rrA (res_tmp h2) rfl
def slices_Max (F : Nat) (x_1 : (List Int)) : Option Int :=
  bif decide ((x_1.length : Int) < 1) then
    none
  else
    (idx x_1 0).bind fun e_2 =>
    slices_Max_l1 F x_1 F e_2 1
theorem t21 (H : H21 D σ F) (x_1 : (List Int)) (s : Nat → V) (hs : Facts [(0, (eL x_1))] s) (h : slices_Max F x_1 = some r) : Run D σ (R21 r) (.run A21 []) s := by
  unfold slices_Max at h
  have h0 := hs
  refine .seq (rg (g0 (ji 0) fun h2 => gq (.nsq (.seq (.seq (rg (gm h0 fun h5 => gv (ji (x_1.length : Int)) (ev_len (xs := x_1) h5) fun h6 => ?_)))))))
  refine g1 6 (jb (decide ((x_1.length : Int) < 1))) h6 fun h7 => ?_
  refine gq (.nsq (run_cond (t := decide ((x_1.length : Int) < 1)) h7 h (fun h => ?_) (fun h => ?_)))
  · cases h
  refine .skip (.nsq (.seq (rg (gm h0 fun h9 => ?_))))
  obtain ⟨e_2, E_e_2, h⟩ := bind_some h
  refine gv (.ref .sh 0 [] (ji e_2)) (ev_idx (t := .sh) (lo := 0) (xs := x_1) h9 rfl E_e_2 rfl rfl) fun h10 => ?_
  refine g1 10 (ji e_2) h10 fun h11 => ?_
  refine gm h11 fun h3 => gq (.nsq (.seq (.seq (rg (g0 (ji 1) fun h4 => gq (.nsq (.block (.loop ?_))))))))
  exact t_f21_l1 H x_1 F e_2 1 _ ⟨h0, h2, h3, h4⟩ h
end
def e21 (F : Nat) : Ent := ent 21 (fun (x : ((List Int) × Unit)) => slices_Max F x.1) (fun (r : Int) => (Enc.enc (r : Int))) 0 false []
theorem p21 {F : Nat} {x0 : (List Int)} {r : Int} (h : slices_Max F x0 = some r) : (e21 F).den [Enc.enc x0] = some (Enc.enc (r : Int)) := ent_put (x0, ()) h
theorem o21 {D : Den} {σ : Sig} {F : Nat} (hF : Fits2 Try.prog D σ) (H : H21 D σ F) : (e21 F).Ok Try.prog := by
  refine ok_of (f := 21) (show unk 21 = 21 from rfl) (fun args r h => ?_) ⟨Try.f21, Try.func21, rfl, rfl⟩
  obtain ⟨⟨x0, _⟩, y, rfl, hy, rfl⟩ := da_open h
  exact contract_run hF (by kernel_rfl) Try.func21 rfl c21 (show 1 ≤ Try.f21.ntmps by decide) (t21 H x0 _ rfl hy)
/- loop.example/g01109/impl.FrontBound -/
def A7_5 : AC := (.reg [] [(jm 27 5), (jm 28 7), (jm 29 5), (jm 30 7), ((jv 31 (.idx (.t 29) (.t 30) 1))), ((jv 32 (.load .s (.t 31)))), ((jv 33 (.load (.ag [.p]) (.t 4)))), (jm 34 6), (.mk (some 35) none false (.call (.k (.fn 20 [] [])) [(.t 33), (.t 34)])), ((jv 36 (.conv .u64 (.t 35)))), (.mk (some 37) none false (.call (.k (.fn 19 [] [])) [(.t 36)])), ((jv 38 (.mn [(.t 32), (.t 37)]))), ((jv 39 (.idx (.t 27) (.t 28) 1))), (.mk none none false (.store .s (.t 39) (.t 38)))] [])
def A7_4 : AC := (.seq (.reg [] [(jm 24 6), ((jv 25 (.conv .u64 (.t 24)))), (.mk (some 26) none false (.call (.k (.fn 19 [] [])) [(.t 25)])), (jm 7 26)] []) A7_5)
def A7_6 : AC := (.reg [] [((jv 40 (.bin .add (.t 21) (jn 1)))), (jm 21 40)] [])
def A7_3 : AC := (.seq (.block 1 (.seq (.reg [] [(jm 23 21), (jm 6 23)] []) A7_4)) A7_6)
def A7_2 : AC := (.seq (.cond (.t 22) .skip (.exit 0)) A7_3)
def A7_1 : AC := (.seq (.reg [] [((jv 22 (.bin .lss (.t 21) (.t 20))))] []) A7_2)
def A7_7 : AC := (.seq (.reg [] [(jm 41 5), (.mk (some 42) none false (.call (.k (.fn 21 [] [])) [(.t 41)])), (jm 2 42), ((jv 3 (.mov (.k (.bool true)))))] []) .ret)
def A7_9 : AC := (.cond (.t 10) (.seq (.reg [] [((jv 2 (.mov (jn 0)))), ((jv 3 (.mov (.k (.bool false)))))] []) .ret) .skip)
def A7_13 : AC := (.block 0 (.loop A7_1))
def A7_12 : AC := (.seq (.seq (.reg [] [((jv 18 (.load (.ag [.p]) (.t 4)))), (.mk (some 19) none false (.call (.k (.fn 18 [] [])) [(.t 18)])), ((jv 20 (.bin .add (.t 19) (jn 1)))), ((jv 21 (.mov (jn 0))))] []) A7_13) A7_7)
def A7_11 : AC := (.seq (.reg [.clr [13, 17]] [(.mk (some 13) none false (.lit (.int .i64 (.ofNat 0)) 1 [(0, 0, (jn 8))])), ((jv 14 (.fld (.t 1) 0 0))), ((jv 15 (.load .s (.t 14)))), ((jv 16 (.bin .add (.t 15) (jn 1)))), (.mk (some 17) none false (.callO (.k (.fn 17 [] [])) [(.t 13), (.t 16)])), (jm 5 17)] [.home 17 5]) A7_12)
def A7_10 : AC := (.seq (.reg [.clr [4]] [((jv 11 (.load (.ag [.s, .p]) (.t 1)))), (.mk (some 12) none false (.call (.k (.fn 16 [] [])) [(.t 11)])), (.mk (some 4) none false (.alloc (.agg [(.sl .nl .s 0 [])]))), (.mk none none false (.store (.ag [.p]) (.t 4) (.t 12)))] []) A7_11)
def A7_8 : AC := (.seq (.seq (.reg [] [((jv 8 (.load (.ag [.s, .p]) (.t 1)))), (.mk (some 9) none false (.call (.k (.fn 15 [] [])) [(.t 8)])), ((jv 10 (.un .not (.t 9))))] []) A7_9) A7_10)
def A7 : AC := (.seq (.reg [.clr [1]] [(.mk (some 1) none false (.box (.t 0))), ((jv 2 (.mov (jn 0)))), ((jv 3 (.mov (.k (.bool false)))))] []) A7_8)
def an7 : List An := [{ id := 0, pre := [.clr [1]], ep := [], lin := [], sp := [] }, { id := 3, pre := [.clr [4]], ep := [], lin := [], sp := [] }, { id := 4, pre := [.clr [13, 17]], ep := [.home 17 5], lin := [], sp := [1004] }]
theorem c7 : cC Try.prog Try.f7.ntmps an7 (Try.f7.body.getD .skip) = some A7 := by kernel_rfl
structure H7 (D : Den) (σ : Sig) (F : Nat) : Prop where
  c15 : ∀ (x0 : (Int × (List (Int × Int)))) r, i_IsGraph F x0 = some r → D 15 [Enc.enc x0] = some (Enc.enc (r : Bool))
  g15 : σ 15 = some (0, false)
  c16 : ∀ (x0 : (Int × (List (Int × Int)))) r, i_netOf F x0 = some r → D 16 [Enc.enc x0] = some (Enc.enc (r : (S1 (List Int))))
  g16 : σ 16 = some (0, false)
  c17o : ∀ (x0 : (List Int)) (x1 : Int) r, slices_Repeat_o F x0 x1 = some r → D 1000000017 [Enc.enc x0, Enc.enc x1] = some (encO .sh (r : NL Int))
  g17o : σ 1000000017 = some (1, false)
  c18 : ∀ (x0 : (S1 (List Int))) r, i_net_all F x0 = some r → D 18 [Enc.enc x0] = some (Enc.enc (r : Int))
  g18 : σ 18 = some (0, false)
  c19 : ∀ (x0 : (Kd .u64)) r, bits_OnesCount F x0 = some r → D 19 [Enc.enc x0] = some (Enc.enc (r : Int))
  g19 : σ 19 = some (0, false)
  c20 : ∀ (x0 : (S1 (List Int))) (x1 : Int) r, i_net_front F x0 x1 = some r → D 20 [Enc.enc x0, Enc.enc x1] = some (Enc.enc (r : Int))
  g20 : σ 20 = some (0, false)
  c21 : ∀ (x0 : (List Int)) r, slices_Max F x0 = some r → D 21 [Enc.enc x0] = some (Enc.enc (r : Int))
  g21 : σ 21 = some (0, false)
abbrev R7 (r : (Int × Bool)) : (Nat → V) → Prop := RR Try.prog [.tmp 2, .tmp 3] 0 false (.tup [Enc.enc (r.1 : Int), Enc.enc (r.2 : Bool)])
section
variable {D : Den} {σ : Sig} {F : Nat} {r : (Int × Bool)}
def i_FrontBound_l1 (F : Nat) (r_3 : (S1 (List Int))) (r_5 : Int)  : Nat → (NL Int) → Int → Option (Int × Bool)
  | 0, _, _ => none
  | k + 1, x_11, x_12 =>
    bif decide (x_12 < (w64 (r_5 + 1))) then
      (bits_OnesCount F (Kd.mk (IntKind.u64.wrap x_12) : Kd .u64)).bind fun r_18 =>
      (idx x_11.list r_18).bind fun e_19 =>
      (i_net_front F r_3 x_12).bind fun r_20 =>
      (bits_OnesCount F (Kd.mk (IntKind.u64.wrap r_20) : Kd .u64)).bind fun r_21 =>
      (idx x_11.list r_18).bind fun e_22 =>
      (i_FrontBound_l1 F r_3 r_5 k) (NL.set x_11 r_18.toNat (if r_21 < e_19 then r_21 else e_19)) (w64 (x_12 + 1))
    else
      (slices_Max F x_11.list).bind fun r_23 =>
      some (r_23, true)
theorem t_f7_l1 (H : H7 D σ F) (r_3 : (S1 (List Int))) (r_5 : Int)  : ∀ (k : Nat) (x_11 : (NL Int)) (x_12 : Int) (s : Nat → V), Facts [(2, (ji 0)), (3, (jb false)), (4, (.ref (.bx 4) 0 [] (.agg [(eL r_3.a)]))), (5, (oI 5 [] x_11)), (20, (ji (w64 (r_5 + 1)))), (21, (ji x_12))] s → i_FrontBound_l1 F r_3 r_5 k x_11 x_12 = some r → Run D σ (R7 r) (.run A7_1 [.lp A7_1, .bk 0, .sq A7_7]) s := by
  intro k
  induction k with
  | zero => intro x_11 x_12 s _ h; exact nomatch (h : (none : Option _) = some r)
  | succ k ih =>
    intro x_11 x_12 s hs h
    rw [i_FrontBound_l1] at h
    obtain ⟨h2, h3, h4, h5, h20, h21⟩ := hs
    refine .seq (rg (g2 21 20 (jb (decide (x_12 < (w64 (r_5 + 1))))) h21 h20 fun h22 => ?_))
    refine gq (.nsq (.seq (run_cond (t := decide (x_12 < (w64 (r_5 + 1)))) h22 h (fun h => ?_) (fun h => ?_))))
    · refine .skip (.nsq (.seq (.block (.seq (rg (gm h21 fun h23 => gm h23 fun h6 => gq (.nsq (.seq (rg (gm h6 fun h24 => g1 24 (.int .u64 (IntKind.u64.wrap x_12)) h24 fun h25 => ?_))))))))))
      obtain ⟨r_18, E_r_18, h⟩ := bind_some h
      refine g_call (m := 0) (al := false) (r := (Enc.enc (r_18 : Int))) [Enc.enc ((Kd.mk (IntKind.u64.wrap x_12) : Kd .u64) : (Kd .u64))] (ta_cons (v := (.int .u64 (IntKind.u64.wrap x_12))) h25 rfl rfl ta_nil) (H.c19 _ _ E_r_18) H.g19 rfl rfl rfl rfl ?_
      refine gm (rfl : (_ : V) = (ji r_18)) fun h7 => ?_
      refine gq (.nsq (rg (gv (oI 5 [] x_11) (ev_mov h5 ok_encO) fun h27 => ?_)))
      refine gm h7 fun h28 => gv (oI 5 [] x_11) (ev_mov h5 ok_encO) fun h29 => ?_
      refine gm h7 fun h30 => ?_
      obtain ⟨e_19, E_e_19, h⟩ := bind_some h
      refine gv (.ref (.at 5 []) r_18.toNat [] (ji e_19)) (ev_idxO (o := x_11) h29 h30 E_e_19 rfl) fun h31 => ?_
      refine g1 31 (ji e_19) h31 fun h32 => ?_
      refine g1 4 (.agg [(eL r_3.a)]) h4 fun h33 => ?_
      refine gm h6 fun h34 => ?_
      obtain ⟨r_20, E_r_20, h⟩ := bind_some h
      refine g_call (m := 0) (al := false) (r := (Enc.enc (r_20 : Int))) [Enc.enc (r_3 : (S1 (List Int))), Enc.enc (x_12 : Int)] (ta_cons (v := (.agg [(eL r_3.a)])) h33 rfl (Enc.erase_enc (r_3 : (S1 (List Int)))) (ta_cons (v := (ji x_12)) h34 rfl rfl ta_nil)) (H.c20 _ _ _ E_r_20) H.g20 rfl rfl rfl rfl ?_
      refine g1 35 (.int .u64 (IntKind.u64.wrap r_20)) (rfl : (_ : V) = (ji r_20)) fun h36 => ?_
      obtain ⟨r_21, E_r_21, h⟩ := bind_some h
      refine g_call (m := 0) (al := false) (r := (Enc.enc (r_21 : Int))) [Enc.enc ((Kd.mk (IntKind.u64.wrap r_20) : Kd .u64) : (Kd .u64))] (ta_cons (v := (.int .u64 (IntKind.u64.wrap r_20))) h36 rfl rfl ta_nil) (H.c19 _ _ E_r_21) H.g19 rfl rfl rfl rfl ?_
      refine g2 32 37 (ji (if r_21 < e_19 then r_21 else e_19)) h32 (rfl : (_ : V) = (ji r_21)) fun h38 => ?_
      obtain ⟨e_22, E_e_22, h⟩ := bind_some h
      refine gv (.ref (.at 5 []) r_18.toNat [] (ji e_22)) (ev_idxO (o := x_11) h27 h28 E_e_22 rfl) fun h39 => ?_
      refine g_store (ji (if r_21 < e_19 then r_21 else e_19)) (rd_of h39 rfl) (rd_of h38 rfl) (by refine ⟨by decide, by decide, rfl, rfl, rfl, ?_⟩; first | rfl | simp [V.toks, V.tokss, Enc.toks_enc]) ?_
      refine gz [(2, (ji 0)), (3, (jb false)), (4, (.ref (.bx 4) 0 [] (.agg [(eL r_3.a)]))), (5, _), (20, (ji (w64 (r_5 + 1)))), (21, (ji x_12))] ⟨(keep_mut h2 rfl), (keep_mut h3 rfl), (keep_mut h4 (mut_ref_ne rfl rfl (mut_agg (muts_cons (Enc.mut_enc _ _ _ _ (r_3.a : List Int)) rfl)))), (keep_mut h5 (mut_ownN (α := Int) (u := (if r_21 < e_19 then r_21 else e_19)) (i := r_18.toNat) (o := x_11))), (keep_mut h20 rfl), (keep_mut h21 rfl)⟩ ?_
      rintro s ⟨h2, h3, h4, h5, h20, h21⟩
      refine .nbk (.nsq (rg (g1 21 (ji (w64 (x_12 + 1))) h21 fun h40 => ?_)))
      refine gm h40 fun h21 => gq (.nlp ?_)
      exact ih (NL.set x_11 r_18.toNat (if r_21 < e_19 then r_21 else e_19)) (w64 (x_12 + 1)) _ ⟨h2, h3, h4, h5, h20, h21⟩ h
    refine .exit (.esq (.elp (.ebk (.nsq (.seq (rg (gv (oI 5 [] x_11) (ev_mov h5 ok_encO) fun h41 => ?_)))))))
    obtain ⟨r_23, E_r_23, h⟩ := bind_some h
    refine g_call (m := 0) (al := false) (r := (Enc.enc (r_23 : Int))) [Enc.enc (x_11.list : (List Int))] (ta_cons (v := (oI 5 [] x_11)) h41 ok_encP (erase_encO (o := x_11)) ta_nil) (H.c21 _ _ E_r_23) H.g21 rfl rfl rfl rfl ?_
    refine gm (rfl : (_ : V) = (ji r_23)) fun h2 => ?_
    refine g0 (jb true) fun h3 => ?_
    refine gq (.nsq (.ret ?_))
    have hr := Option.some.inj h
    subst hr
    exact rrB (res_tmp h2) (res_tmp h3) rfl
def i_FrontBound (F : Nat) (x_1 : (Int × (List (Int × Int)))) : Option (Int × Bool) :=
  (i_IsGraph F x_1).bind fun r_2 =>
  bif (!r_2) then
    some (0, false)
  else
    (i_netOf F x_1).bind fun r_3 =>
    (slices_Repeat_o F [8] (w64 (x_1.1 + 1))).bind fun r_4 =>
    (i_net_all F r_3).bind fun r_5 =>
    i_FrontBound_l1 F r_3 r_5 F r_4 0
theorem t7 (H : H7 D σ F) (x_1 : (Int × (List (Int × Int)))) (s : Nat → V) (hs : Facts [(0, (.agg [(ji x_1.1), (Enc.enc (x_1.2 : List (Int × Int)))]))] s) (h : i_FrontBound F x_1 = some r) : Run D σ (R7 r) (.run A7 []) s := by
  unfold i_FrontBound at h
  have h0 := hs
  refine .seq (run_reg ?_)
  refine e_clr ?_
  refine ez [(0, _), (1, _)] ⟨(keep_clear (pk := [1]) h0 rfl (map_agg (maps_cons mi (maps_cons me maps_nil)))), (gone_clear (pk := [1]) (t := 1) rfl)⟩ ?_
  rintro s ⟨h0, h1⟩
  refine g_box (.agg [(ji x_1.1), (Enc.enc (x_1.2 : List (Int × Int)))]) (rd_of h0 rfl) h1 rfl ?_
  refine g0 (ji 0) fun h2 => g0 (jb false) fun h3 => ?_
  refine gq (.nsq (.seq (.seq (rg (g1 1 (.agg [(ji x_1.1), (Enc.enc (x_1.2 : List (Int × Int)))]) (rfl : (_ : V) = (.ref (.bx 1) 0 [] (.agg [(ji x_1.1), (Enc.enc (x_1.2 : List (Int × Int)))]))) fun h8 => ?_)))))
  obtain ⟨r_2, E_r_2, h⟩ := bind_some h
  refine g_call (m := 0) (al := false) (r := (Enc.enc (r_2 : Bool))) [Enc.enc (x_1 : (Int × (List (Int × Int))))] (ta_cons (v := (.agg [(ji x_1.1), (Enc.enc (x_1.2 : List (Int × Int)))])) h8 rfl (Enc.erase_enc (x_1 : (Int × (List (Int × Int))))) ta_nil) (H.c15 _ _ E_r_2) H.g15 rfl rfl rfl rfl ?_
  refine g1 9 (jb (!r_2)) (rfl : (_ : V) = (jb r_2)) fun h10 => ?_
  refine gq (.nsq (run_cond (t := (!r_2)) h10 h (fun h => ?_) (fun h => ?_)))
  · refine .seq (rg (g0 (ji 0) fun h2 => g0 (jb false) fun h3 => ?_))
    refine gq (.nsq (.ret ?_))
    have hr := Option.some.inj h
    subst hr
    exact rrB (res_tmp h2) (res_tmp h3) rfl
  refine .skip (.nsq (.seq (run_reg ?_)))
  refine e_clr ?_
  refine ez [(1, _), (2, _), (3, _), (4, _)] ⟨(keep_clear (pk := [4]) rfl rfl (map_bx rfl (map_agg (maps_cons mi (maps_cons me maps_nil))))), (keep_clear (pk := [4]) h2 rfl mi), (keep_clear (pk := [4]) h3 rfl mb), (gone_clear (pk := [4]) (t := 4) rfl)⟩ ?_
  rintro s ⟨h1, h2, h3, h4⟩
  refine g1 1 (.agg [(ji x_1.1), (Enc.enc (x_1.2 : List (Int × Int)))]) h1 fun h11 => ?_
  obtain ⟨r_3, E_r_3, h⟩ := bind_some h
  refine g_call (m := 0) (al := false) (r := (Enc.enc (r_3 : (S1 (List Int))))) [Enc.enc (x_1 : (Int × (List (Int × Int))))] (ta_cons (v := (.agg [(ji x_1.1), (Enc.enc (x_1.2 : List (Int × Int)))])) h11 rfl (Enc.erase_enc (x_1 : (Int × (List (Int × Int))))) ta_nil) (H.c16 _ _ E_r_3) H.g16 rfl rfl rfl rfl ?_
  refine g_alloc h4 ?_
  refine g_store (.agg [(eL r_3.a)]) (rd_of rfl rfl) (rd_of rfl rfl) (by refine ⟨by decide, by decide, rfl, rfl, rfl, ?_⟩; first | rfl | simp [V.toks, V.tokss, Enc.toks_enc]) ?_
  refine gz [(1, (.ref (.bx 1) 0 [] (.agg [(ji x_1.1), (Enc.enc (x_1.2 : List (Int × Int)))]))), (2, (ji 0)), (3, (jb false)), (4, (.ref (.bx 4) 0 [] (.agg [(eL r_3.a)])))] ⟨(keep_mut h1 (mut_ref_ne rfl rfl (mut_agg (muts_cons rfl (muts_cons (Enc.mut_enc _ _ _ _ (x_1.2 : List (Int × Int))) rfl))))), (keep_mut h2 rfl), (keep_mut h3 rfl), (keep_mut rfl rfl)⟩ ?_
  rintro s ⟨h1, h2, h3, h4⟩
  refine .nsq (.seq (run_reg ?_))
  refine e_clr ?_
  refine ez [(1, _), (2, _), (3, _), (4, _), (13, _), (17, _)] ⟨(keep_clear (pk := [13, 17]) h1 rfl (map_bx rfl (map_agg (maps_cons mi (maps_cons me maps_nil))))), (keep_clear (pk := [13, 17]) h2 rfl mi), (keep_clear (pk := [13, 17]) h3 rfl mb), (keep_clear (pk := [13, 17]) h4 rfl (map_bx rfl (map_agg (maps_cons me maps_nil)))), (gone_clear (pk := [13, 17]) (t := 13) rfl), (gone_clear (pk := [13, 17]) (t := 17) rfl)⟩ ?_
  rintro s ⟨h1, h2, h3, h4, h13, h17⟩
  refine g_litL [] [Enc.enc (8 : Int)] trivial rfl rfl h13 ?_
  refine g1 1 (.ref (.bx 1) 0 [0] (ji x_1.1)) h1 fun h14 => ?_
  refine g1 14 (ji x_1.1) h14 fun h15 => ?_
  refine g1 15 (ji (w64 (x_1.1 + 1))) h15 fun h16 => ?_
  obtain ⟨r_4, E_r_4, h⟩ := bind_some h
  refine g_callO (m := 1) (al := false) (r := (encO .sh (r_4 : NL Int))) (v := (oI 17 [] r_4)) (kk := 1000000017) [Enc.enc ([8] : (List Int)), Enc.enc (w64 (x_1.1 + 1) : Int)] (ta_cons (v := (oI 13 [] (.of [8]))) rfl rfl (erase_encO (o := .of [8])) (ta_cons (v := (ji (w64 (x_1.1 + 1)))) h16 rfl rfl ta_nil)) (H.c17o _ _ _ E_r_4) H.g17o rfl toks_encS tag_encO ok_encP h17 ?_
  refine gv (oI 17 [] r_4) (ev_mov rfl ok_encO) fun h5 => ?_
  refine g_end ?_
  refine e_home (r := 17) (x := 5) (v := _) h5 ok_encO (fun s_4 hg_4 => ?_)
  refine ez [(2, (ji 0)), (3, (jb false)), (4, (.ref (.bx 4) 0 [] (.agg [(eL r_3.a)]))), (5, (oI 5 [] r_4))] ⟨(hg_4 2 _ _ h2 mi), (hg_4 3 _ _ h3 mb), (hg_4 4 _ _ h4 (map_bx rfl (map_agg (maps_cons me maps_nil)))), (hg_4 5 _ _ h5 (map_encO (r := 17) (p := []) rfl rfl))⟩ ?_
  rintro s ⟨h2, h3, h4, h5⟩
  refine .nsq (.seq (.seq (rg (g1 4 (.agg [(eL r_3.a)]) h4 fun h18 => ?_))))
  obtain ⟨r_5, E_r_5, h⟩ := bind_some h
  refine g_call (m := 0) (al := false) (r := (Enc.enc (r_5 : Int))) [Enc.enc (r_3 : (S1 (List Int)))] (ta_cons (v := (.agg [(eL r_3.a)])) h18 rfl (Enc.erase_enc (r_3 : (S1 (List Int)))) ta_nil) (H.c18 _ _ E_r_5) H.g18 rfl rfl rfl rfl ?_
  refine g1 19 (ji (w64 (r_5 + 1))) (rfl : (_ : V) = (ji r_5)) fun h20 => ?_
  refine g0 (ji 0) fun h21 => gq (.nsq (.block (.loop ?_)))
  exact t_f7_l1 H r_3 r_5 F r_4 0 _ ⟨h2, h3, h4, h5, h20, h21⟩ h
end
def e7 (F : Nat) : Ent := ent 7 (fun (x : ((Int × (List (Int × Int))) × Unit)) => i_FrontBound F x.1) (fun (r : (Int × Bool)) => (.tup [Enc.enc (r.1 : Int), Enc.enc (r.2 : Bool)])) 0 false []
theorem p7 {F : Nat} {x0 : (Int × (List (Int × Int)))} {r : (Int × Bool)} (h : i_FrontBound F x0 = some r) : (e7 F).den [Enc.enc x0] = some (.tup [Enc.enc (r.1 : Int), Enc.enc (r.2 : Bool)]) := ent_put (x0, ()) h
theorem o7 {D : Den} {σ : Sig} {F : Nat} (hF : Fits2 Try.prog D σ) (H : H7 D σ F) : (e7 F).Ok Try.prog := by
  refine ok_of (f := 7) (show unk 7 = 7 from rfl) (fun args r h => ?_) ⟨Try.f7, Try.func7, rfl, rfl⟩
  obtain ⟨⟨x0, _⟩, y, rfl, hy, rfl⟩ := da_open h
  exact contract_run hF (by kernel_rfl) Try.func7 rfl c7 (show 1 ≤ Try.f7.ntmps by decide) (t7 H x0 _ rfl hy)
/- loop.example/g01109/laws.eqIntA2 -/
def A35_2 : AC := (.cond (.t 7) .skip (.exit 0))
def A35_4 : AC := (.cond (.t 16) (.seq (.reg [] [((jv 4 (.mov (.k (.bool false)))))] []) .ret) .skip)
def A35_5 : AC := (.reg [] [(jm 8 5), ((jv 9 (.bin .add (.t 8) (jn 1)))), (jm 5 9)] [])
def A35_3 : AC := (.seq (.block 1 (.seq (.reg [] [(jm 10 5), ((jv 11 (.idxA (.t 2) (.t 10) 2 1))), ((jv 12 (.load .s (.t 11)))), (jm 13 5), ((jv 14 (.idxA (.t 3) (.t 13) 2 1))), ((jv 15 (.load .s (.t 14)))), ((jv 16 (.bin .neq (.t 12) (.t 15))))] []) A35_4)) A35_5)
def A35_1 : AC := (.seq (.seq (.reg [] [(jm 6 5), ((jv 7 (.bin .lss (.t 6) (jn 2))))] []) A35_2) A35_3)
def A35_6 : AC := (.seq (.reg [] [((jv 4 (.mov (.k (.bool true)))))] []) .ret)
def A35_8 : AC := (.block 0 (.loop A35_1))
def A35_7 : AC := (.seq (.seq (.reg [] [((jv 5 (.mov (jn 0))))] []) A35_8) A35_6)
def A35 : AC := (.seq (.reg [.clr [2, 3]] [(.mk (some 2) none false (.box (.t 0))), (.mk (some 3) none false (.box (.t 1))), ((jv 4 (.mov (.k (.bool false)))))] []) A35_7)
def an35 : List An := [{ id := 0, pre := [.clr [2, 3]], ep := [], lin := [], sp := [] }]
theorem c35 : cC Try.prog Try.f35.ntmps an35 (Try.f35.body.getD .skip) = some A35 := by kernel_rfl
structure H35 (D : Den) (σ : Sig) (F : Nat) : Prop where
  mk ::
abbrev R35 (r : Bool) : (Nat → V) → Prop := RR Try.prog [.tmp 4] 0 false (Enc.enc (r : Bool))
section
variable {D : Den} {σ : Sig} {F : Nat} {r : Bool}
def w_eqIntA2_l1 (F : Nat) (x_1 : (Int × Int)) (x_2 : (Int × Int))  : Nat → Int → Option Bool
  | 0, _ => none
  | k + 1, x_3 =>
    bif decide (x_3 < 2) then
      (idx [x_1.1, x_1.2] x_3).bind fun e_6 =>
      (idx [x_2.1, x_2.2] x_3).bind fun e_7 =>
      bif (e_6 != e_7) then
        some false
      else
        (w_eqIntA2_l1 F x_1 x_2 k) (w64 (x_3 + 1))
    else
      some true
theorem t_f35_l1 (H : H35 D σ F) (x_1 : (Int × Int)) (x_2 : (Int × Int))  : ∀ (k : Nat) (x_3 : Int) (s : Nat → V), Facts [(2, (.ref (.bx 2) 0 [] (.agg [(ji x_1.1), (ji x_1.2)]))), (3, (.ref (.bx 3) 0 [] (.agg [(ji x_2.1), (ji x_2.2)]))), (4, (jb false)), (5, (ji x_3))] s → w_eqIntA2_l1 F x_1 x_2 k x_3 = some r → Run D σ (R35 r) (.run A35_1 [.lp A35_1, .bk 0, .sq A35_6]) s := by
  intro k
  induction k with
  | zero => intro x_3 s _ h; exact nomatch (h : (none : Option _) = some r)
  | succ k ih =>
    intro x_3 s hs h
    rw [w_eqIntA2_l1] at h
    obtain ⟨h2, h3, h4, h5⟩ := hs
    refine .seq (.seq (rg (gm h5 fun h6 => g1 6 (jb (decide (x_3 < 2))) h6 fun h7 => ?_)))
    refine gq (.nsq (run_cond (t := decide (x_3 < 2)) h7 h (fun h => ?_) (fun h => ?_)))
    · refine .skip (.nsq (.seq (.block (.seq (rg (gm h5 fun h10 => ?_))))))
      obtain ⟨e_6, E_e_6, h⟩ := bind_some h
      refine gv (.ref (.bx 2) 0 [x_3.toNat] (ji e_6)) (ev_idxA (xs := [x_1.1, x_1.2]) (a := e_6) (n := x_3) (q := []) h2 h10 E_e_6 rfl rfl rfl) fun h11 => ?_
      refine g1 11 (ji e_6) h11 fun h12 => ?_
      refine gm h5 fun h13 => ?_
      obtain ⟨e_7, E_e_7, h⟩ := bind_some h
      refine gv (.ref (.bx 3) 0 [x_3.toNat] (ji e_7)) (ev_idxA (xs := [x_2.1, x_2.2]) (a := e_7) (n := x_3) (q := []) h3 h13 E_e_7 rfl rfl rfl) fun h14 => ?_
      refine g1 14 (ji e_7) h14 fun h15 => ?_
      refine g2 12 15 (jb (e_6 != e_7)) h12 h15 fun h16 => ?_
      refine gq (.nsq (run_cond (t := (e_6 != e_7)) h16 h (fun h => ?_) (fun h => ?_)))
      · refine .seq (rg (g0 (jb false) fun h4 => ?_))
        refine gq (.nsq (.ret ?_))
        have hr := Option.some.inj h
        subst hr
        exact rrA (res_tmp h4) rfl
      refine .skip (.nbk (.nsq (rg (gm h5 fun h8 => g1 8 (ji (w64 (x_3 + 1))) h8 fun h9 => ?_))))
      refine gm h9 fun h5 => gq (.nlp ?_)
      exact ih (w64 (x_3 + 1)) _ ⟨h2, h3, h4, h5⟩ h
    refine .exit (.esq (.elp (.ebk (.nsq (.seq (rg (g0 (jb true) fun h4 => ?_)))))))
    refine gq (.nsq (.ret ?_))
    have hr := Option.some.inj h
    subst hr
    exact rrA (res_tmp h4) rfl
def w_eqIntA2 (F : Nat) (x_1 : (Int × Int)) (x_2 : (Int × Int)) : Option Bool :=
  w_eqIntA2_l1 F x_1 x_2 F 0
theorem t35 (H : H35 D σ F) (x_1 : (Int × Int)) (x_2 : (Int × Int)) (s : Nat → V) (hs : Facts [(0, (.agg [(ji x_1.1), (ji x_1.2)])), (1, (.agg [(ji x_2.1), (ji x_2.2)]))] s) (h : w_eqIntA2 F x_1 x_2 = some r) : Run D σ (R35 r) (.run A35 []) s := by
  unfold w_eqIntA2 at h
  obtain ⟨h0, h1⟩ := hs
  refine .seq (run_reg ?_)
  refine e_clr ?_
  refine ez [(0, _), (1, _), (2, _), (3, _)] ⟨(keep_clear (pk := [2, 3]) h0 rfl (map_agg (maps_cons mi (maps_cons mi maps_nil)))), (keep_clear (pk := [2, 3]) h1 rfl (map_agg (maps_cons mi (maps_cons mi maps_nil)))), (gone_clear (pk := [2, 3]) (t := 2) rfl), (gone_clear (pk := [2, 3]) (t := 3) rfl)⟩ ?_
  rintro s ⟨h0, h1, h2, h3⟩
  refine g_box (.agg [(ji x_1.1), (ji x_1.2)]) (rd_of h0 rfl) h2 rfl ?_
  refine g_box (.agg [(ji x_2.1), (ji x_2.2)]) (rd_of h1 rfl) h3 rfl ?_
  refine g0 (jb false) fun h4 => ?_
  refine gq (.nsq (.seq (.seq (rg (g0 (ji 0) fun h5 => gq (.nsq (.block (.loop ?_))))))))
  exact t_f35_l1 H x_1 x_2 F 0 _ ⟨rfl, rfl, h4, h5⟩ h
end
def e35 (F : Nat) : Ent := ent 35 (fun (x : ((Int × Int) × (Int × Int) × Unit)) => w_eqIntA2 F x.1 x.2.1) (fun (r : Bool) => (Enc.enc (r : Bool))) 0 false []
theorem p35 {F : Nat} {x0 : (Int × Int)} {x1 : (Int × Int)} {r : Bool} (h : w_eqIntA2 F x0 x1 = some r) : (e35 F).den [Enc.enc x0, Enc.enc x1] = some (Enc.enc (r : Bool)) := ent_put (x0, x1, ()) h
theorem o35 {D : Den} {σ : Sig} {F : Nat} (hF : Fits2 Try.prog D σ) (H : H35 D σ F) : (e35 F).Ok Try.prog := by
  refine ok_of (f := 35) (show unk 35 = 35 from rfl) (fun args r h => ?_) ⟨Try.f35, Try.func35, rfl, rfl⟩
  obtain ⟨⟨x0, x1, _⟩, y, rfl, hy, rfl⟩ := da_open h
  exact contract_run hF (by kernel_rfl) Try.func35 rfl c35 (show 2 ≤ Try.f35.ntmps by decide) (t35 H x0 x1 _ ⟨rfl, rfl⟩ hy)
/- loop.example/g01109/laws.eqIntA2S -/
def A22_2 : AC := (.cond (.t 14) .skip (.exit 0))
def A22_4 : AC := (.cond (.t 26) (.seq (.reg [] [((jv 4 (.mov (.k (.bool false)))))] []) .ret) .skip)
def A22_5 : AC := (.reg [] [(jm 15 5), ((jv 16 (.bin .add (.t 15) (jn 1)))), (jm 5 16)] [])
def A22_3 : AC := (.seq (.block 1 (.seq (.reg [] [(jm 17 0), (jm 18 5), ((jv 19 (.idx (.t 17) (.t 18) 2))), ((jv 20 (.load (.ag [.s, .s]) (.t 19)))), (jm 21 1), (jm 22 5), ((jv 23 (.idx (.t 21) (.t 22) 2))), ((jv 24 (.load (.ag [.s, .s]) (.t 23)))), (.mk (some 25) none false (.call (.k (.fn 35 [] [])) [(.t 20), (.t 24)])), ((jv 26 (.un .not (.t 25))))] []) A22_4)) A22_5)
def A22_1 : AC := (.seq (.seq (.reg [] [(jm 11 5), (jm 12 0), ((jv 13 (.len (.t 12)))), ((jv 14 (.bin .lss (.t 11) (.t 13))))] []) A22_2) A22_3)
def A22_6 : AC := (.seq (.reg [] [((jv 4 (.mov (.k (.bool true)))))] []) .ret)
def A22_8 : AC := (.cond (.t 10) (.seq (.reg [] [((jv 4 (.mov (.k (.bool false)))))] []) .ret) .skip)
def A22_10 : AC := (.block 0 (.loop A22_1))
def A22_9 : AC := (.seq (.seq (.reg [] [((jv 5 (.mov (jn 0))))] []) A22_10) A22_6)
def A22_7 : AC := (.seq (.seq (.reg [] [(jm 6 0), ((jv 7 (.len (.t 6)))), (jm 8 1), ((jv 9 (.len (.t 8)))), ((jv 10 (.bin .neq (.t 7) (.t 9))))] []) A22_8) A22_9)
def A22 : AC := (.seq (.reg [] [((jv 4 (.mov (.k (.bool false)))))] []) A22_7)
def an22 : List An := []
theorem c22 : cC Try.prog Try.f22.ntmps an22 (Try.f22.body.getD .skip) = some A22 := by kernel_rfl
structure H22 (D : Den) (σ : Sig) (F : Nat) : Prop where
  c35 : ∀ (x0 : (Int × Int)) (x1 : (Int × Int)) r, w_eqIntA2 F x0 x1 = some r → D 35 [Enc.enc x0, Enc.enc x1] = some (Enc.enc (r : Bool))
  g35 : σ 35 = some (0, false)
abbrev R22 (r : Bool) : (Nat → V) → Prop := RR Try.prog [.tmp 4] 0 false (Enc.enc (r : Bool))
section
variable {D : Den} {σ : Sig} {F : Nat} {r : Bool}
def w_eqIntA2S_l1 (F : Nat) (x_1 : (List (Int × Int))) (x_2 : (List (Int × Int)))  : Nat → Int → Option Bool
  | 0, _ => none
  | k + 1, x_6 =>
    bif decide (x_6 < (x_1.length : Int)) then
      (idx x_1 x_6).bind fun e_10 =>
      (idx x_2 x_6).bind fun e_11 =>
      (w_eqIntA2 F e_10 e_11).bind fun r_12 =>
      bif (!r_12) then
        some false
      else
        (w_eqIntA2S_l1 F x_1 x_2 k) (w64 (x_6 + 1))
    else
      some true
theorem t_f22_l1 (H : H22 D σ F) (x_1 : (List (Int × Int))) (x_2 : (List (Int × Int)))  : ∀ (k : Nat) (x_6 : Int) (s : Nat → V), Facts [(0, (Enc.enc (x_1 : List (Int × Int)))), (1, (Enc.enc (x_2 : List (Int × Int)))), (4, (jb false)), (5, (ji x_6))] s → w_eqIntA2S_l1 F x_1 x_2 k x_6 = some r → Run D σ (R22 r) (.run A22_1 [.lp A22_1, .bk 0, .sq A22_6]) s := by
  intro k
  induction k with
  | zero => intro x_6 s _ h; exact nomatch (h : (none : Option _) = some r)
  | succ k ih =>
    intro x_6 s hs h
    rw [w_eqIntA2S_l1] at h
    obtain ⟨h0, h1, h4, h5⟩ := hs
    refine .seq (.seq (rg (gm h5 fun h11 => gm h0 fun h12 => gv (ji (x_1.length : Int)) (ev_len (xs := x_1) h12) fun h13 => ?_)))
    refine g2 11 13 (jb (decide (x_6 < (x_1.length : Int)))) h11 h13 fun h14 => ?_
    refine gq (.nsq (run_cond (t := decide (x_6 < (x_1.length : Int))) h14 h (fun h => ?_) (fun h => ?_)))
    · refine .skip (.nsq (.seq (.block (.seq (rg (gm h0 fun h17 => gm h5 fun h18 => ?_))))))
      obtain ⟨e_10, E_e_10, h⟩ := bind_some h
      refine gv (.ref .sh 0 [] (.agg [(ji e_10.1), (ji e_10.2)])) (ev_idx (t := .sh) (lo := 0) (xs := x_1) h17 h18 E_e_10 rfl rfl) fun h19 => ?_
      refine g1 19 (.agg [(ji e_10.1), (ji e_10.2)]) h19 fun h20 => ?_
      refine gm h1 fun h21 => gm h5 fun h22 => ?_
      obtain ⟨e_11, E_e_11, h⟩ := bind_some h
      refine gv (.ref .sh 0 [] (.agg [(ji e_11.1), (ji e_11.2)])) (ev_idx (t := .sh) (lo := 0) (xs := x_2) h21 h22 E_e_11 rfl rfl) fun h23 => ?_
      refine g1 23 (.agg [(ji e_11.1), (ji e_11.2)]) h23 fun h24 => ?_
      obtain ⟨r_12, E_r_12, h⟩ := bind_some h
      refine g_call (m := 0) (al := false) (r := (Enc.enc (r_12 : Bool))) [Enc.enc (e_10 : (Int × Int)), Enc.enc (e_11 : (Int × Int))] (ta_cons (v := (.agg [(ji e_10.1), (ji e_10.2)])) h20 rfl (Enc.erase_enc (e_10 : (Int × Int))) (ta_cons (v := (.agg [(ji e_11.1), (ji e_11.2)])) h24 rfl (Enc.erase_enc (e_11 : (Int × Int))) ta_nil)) (H.c35 _ _ _ E_r_12) H.g35 rfl rfl rfl rfl ?_
      refine g1 25 (jb (!r_12)) (rfl : (_ : V) = (jb r_12)) fun h26 => ?_
      refine gq (.nsq (run_cond (t := (!r_12)) h26 h (fun h => ?_) (fun h => ?_)))
      · refine .seq (rg (g0 (jb false) fun h4 => ?_))
        refine gq (.nsq (.ret ?_))
        have hr := Option.some.inj h
        subst hr
        exact rrA (res_tmp h4) rfl
      refine .skip (.nbk (.nsq (rg (gm h5 fun h15 => g1 15 (ji (w64 (x_6 + 1))) h15 fun h16 => ?_))))
      refine gm h16 fun h5 => gq (.nlp ?_)
      exact ih (w64 (x_6 + 1)) _ ⟨h0, h1, h4, h5⟩ h
    refine .exit (.esq (.elp (.ebk (.nsq (.seq (rg (g0 (jb true) fun h4 => ?_)))))))
    refine gq (.nsq (.ret ?_))
    have hr := Option.some.inj h
    subst hr
    exact rrA (res_tmp h4) rfl
def w_eqIntA2S (F : Nat) (x_1 : (List (Int × Int))) (x_2 : (List (Int × Int))) : Option Bool :=
  bif ((x_1.length : Int) != (x_2.length : Int)) then
    some false
  else
    w_eqIntA2S_l1 F x_1 x_2 F 0
theorem t22 (H : H22 D σ F) (x_1 : (List (Int × Int))) (x_2 : (List (Int × Int))) (s : Nat → V) (hs : Facts [(0, (Enc.enc (x_1 : List (Int × Int)))), (1, (Enc.enc (x_2 : List (Int × Int))))] s) (h : w_eqIntA2S F x_1 x_2 = some r) : Run D σ (R22 r) (.run A22 []) s := by
  unfold w_eqIntA2S at h
  obtain ⟨h0, h1⟩ := hs
  refine .seq (rg (g0 (jb false) fun h4 => ?_))
  refine gq (.nsq (.seq (.seq (rg (gm h0 fun h6 => gv (ji (x_1.length : Int)) (ev_len (xs := x_1) h6) fun h7 => ?_)))))
  refine gm h1 fun h8 => gv (ji (x_2.length : Int)) (ev_len (xs := x_2) h8) fun h9 => ?_
  refine g2 7 9 (jb ((x_1.length : Int) != (x_2.length : Int))) h7 h9 fun h10 => ?_
  refine gq (.nsq (run_cond (t := ((x_1.length : Int) != (x_2.length : Int))) h10 h (fun h => ?_) (fun h => ?_)))
  · refine .seq (rg (g0 (jb false) fun h4 => ?_))
    refine gq (.nsq (.ret ?_))
    have hr := Option.some.inj h
    subst hr
    exact rrA (res_tmp h4) rfl
  refine .skip (.nsq (.seq (.seq (rg (g0 (ji 0) fun h5 => gq (.nsq (.block (.loop ?_))))))))
  exact t_f22_l1 H x_1 x_2 F 0 _ ⟨h0, h1, h4, h5⟩ h
end
def e22 (F : Nat) : Ent := ent 22 (fun (x : ((List (Int × Int)) × (List (Int × Int)) × Unit)) => w_eqIntA2S F x.1 x.2.1) (fun (r : Bool) => (Enc.enc (r : Bool))) 0 false []
theorem p22 {F : Nat} {x0 : (List (Int × Int))} {x1 : (List (Int × Int))} {r : Bool} (h : w_eqIntA2S F x0 x1 = some r) : (e22 F).den [Enc.enc x0, Enc.enc x1] = some (Enc.enc (r : Bool)) := ent_put (x0, x1, ()) h
theorem o22 {D : Den} {σ : Sig} {F : Nat} (hF : Fits2 Try.prog D σ) (H : H22 D σ F) : (e22 F).Ok Try.prog := by
  refine ok_of (f := 22) (show unk 22 = 22 from rfl) (fun args r h => ?_) ⟨Try.f22, Try.func22, rfl, rfl⟩
  obtain ⟨⟨x0, x1, _⟩, y, rfl, hy, rfl⟩ := da_open h
  exact contract_run hF (by kernel_rfl) Try.func22 rfl c22 (show 2 ≤ Try.f22.ntmps by decide) (t22 H x0 x1 _ ⟨rfl, rfl⟩ hy)
/- loop.example/g01109/laws.eqGraph -/
def A8_2 : AC := (.cond (.t 9) (.seq (.reg [] [((jv 4 (.mov (.k (.bool false)))))] []) .ret) .skip)
def A8_4 : AC := (.cond (.t 15) (.seq (.reg [] [((jv 4 (.mov (.k (.bool false)))))] []) .ret) .skip)
def A8_5 : AC := (.seq (.reg [] [((jv 4 (.mov (.k (.bool true)))))] []) .ret)
def A8_3 : AC := (.seq (.seq (.reg [] [((jv 10 (.fld (.t 2) 1 1))), ((jv 11 (.load .p (.t 10)))), ((jv 12 (.fld (.t 3) 1 1))), ((jv 13 (.load .p (.t 12)))), (.mk (some 14) none false (.call (.k (.fn 22 [] [])) [(.t 11), (.t 13)])), ((jv 15 (.un .not (.t 14))))] []) A8_4) A8_5)
def A8_1 : AC := (.seq (.seq (.reg [] [((jv 5 (.fld (.t 2) 0 0))), ((jv 6 (.load .s (.t 5)))), ((jv 7 (.fld (.t 3) 0 0))), ((jv 8 (.load .s (.t 7)))), ((jv 9 (.bin .neq (.t 6) (.t 8))))] []) A8_2) A8_3)
def A8 : AC := (.seq (.reg [.clr [2, 3]] [(.mk (some 2) none false (.box (.t 0))), (.mk (some 3) none false (.box (.t 1))), ((jv 4 (.mov (.k (.bool false)))))] []) A8_1)
def an8 : List An := [{ id := 0, pre := [.clr [2, 3]], ep := [], lin := [], sp := [] }]
theorem c8 : cC Try.prog Try.f8.ntmps an8 (Try.f8.body.getD .skip) = some A8 := by kernel_rfl
structure H8 (D : Den) (σ : Sig) (F : Nat) : Prop where
  c22 : ∀ (x0 : (List (Int × Int))) (x1 : (List (Int × Int))) r, w_eqIntA2S F x0 x1 = some r → D 22 [Enc.enc x0, Enc.enc x1] = some (Enc.enc (r : Bool))
  g22 : σ 22 = some (0, false)
abbrev R8 (r : Bool) : (Nat → V) → Prop := RR Try.prog [.tmp 4] 0 false (Enc.enc (r : Bool))
section
variable {D : Den} {σ : Sig} {F : Nat} {r : Bool}
def w_eqGraph (F : Nat) (x_1 : (Int × (List (Int × Int)))) (x_2 : (Int × (List (Int × Int)))) : Option Bool :=
  bif (x_1.1 != x_2.1) then
    some false
  else
    (w_eqIntA2S F x_1.2 x_2.2).bind fun r_3 =>
    bif (!r_3) then
      some false
    else
      some true
theorem t8 (H : H8 D σ F) (x_1 : (Int × (List (Int × Int)))) (x_2 : (Int × (List (Int × Int)))) (s : Nat → V) (hs : Facts [(0, (.agg [(ji x_1.1), (Enc.enc (x_1.2 : List (Int × Int)))])), (1, (.agg [(ji x_2.1), (Enc.enc (x_2.2 : List (Int × Int)))]))] s) (h : w_eqGraph F x_1 x_2 = some r) : Run D σ (R8 r) (.run A8 []) s := by
  unfold w_eqGraph at h
  obtain ⟨h0, h1⟩ := hs
  refine .seq (run_reg ?_)
  refine e_clr ?_
  refine ez [(0, _), (1, _), (2, _), (3, _)] ⟨(keep_clear (pk := [2, 3]) h0 rfl (map_agg (maps_cons mi (maps_cons me maps_nil)))), (keep_clear (pk := [2, 3]) h1 rfl (map_agg (maps_cons mi (maps_cons me maps_nil)))), (gone_clear (pk := [2, 3]) (t := 2) rfl), (gone_clear (pk := [2, 3]) (t := 3) rfl)⟩ ?_
  rintro s ⟨h0, h1, h2, h3⟩
  refine g_box (.agg [(ji x_1.1), (Enc.enc (x_1.2 : List (Int × Int)))]) (rd_of h0 rfl) h2 rfl ?_
  refine g_box (.agg [(ji x_2.1), (Enc.enc (x_2.2 : List (Int × Int)))]) (rd_of h1 rfl) h3 rfl ?_
  refine g0 (jb false) fun h4 => ?_
  refine gq (.nsq (.seq (.seq (rg (g1 2 (.ref (.bx 2) 0 [0] (ji x_1.1)) (rfl : (_ : V) = (.ref (.bx 2) 0 [] (.agg [(ji x_1.1), (Enc.enc (x_1.2 : List (Int × Int)))]))) fun h5 => ?_)))))
  refine g1 5 (ji x_1.1) h5 fun h6 => ?_
  refine g1 3 (.ref (.bx 3) 0 [0] (ji x_2.1)) (rfl : (_ : V) = (.ref (.bx 3) 0 [] (.agg [(ji x_2.1), (Enc.enc (x_2.2 : List (Int × Int)))]))) fun h7 => ?_
  refine g1 7 (ji x_2.1) h7 fun h8 => ?_
  refine g2 6 8 (jb (x_1.1 != x_2.1)) h6 h8 fun h9 => ?_
  refine gq (.nsq (run_cond (t := (x_1.1 != x_2.1)) h9 h (fun h => ?_) (fun h => ?_)))
  · refine .seq (rg (g0 (jb false) fun h4 => ?_))
    refine gq (.nsq (.ret ?_))
    have hr := Option.some.inj h
    subst hr
    exact rrA (res_tmp h4) rfl
  refine .skip (.nsq (.seq (.seq (rg (g1 2 (.ref (.bx 2) 0 [1] (Enc.enc (x_1.2 : List (Int × Int)))) (rfl : (_ : V) = (.ref (.bx 2) 0 [] (.agg [(ji x_1.1), (Enc.enc (x_1.2 : List (Int × Int)))]))) fun h10 => ?_)))))
  refine g1 10 (Enc.enc (x_1.2 : List (Int × Int))) h10 fun h11 => ?_
  refine g1 3 (.ref (.bx 3) 0 [1] (Enc.enc (x_2.2 : List (Int × Int)))) (rfl : (_ : V) = (.ref (.bx 3) 0 [] (.agg [(ji x_2.1), (Enc.enc (x_2.2 : List (Int × Int)))]))) fun h12 => ?_
  refine g1 12 (Enc.enc (x_2.2 : List (Int × Int))) h12 fun h13 => ?_
  obtain ⟨r_3, E_r_3, h⟩ := bind_some h
  refine g_call (m := 0) (al := false) (r := (Enc.enc (r_3 : Bool))) [Enc.enc (x_1.2 : (List (Int × Int))), Enc.enc (x_2.2 : (List (Int × Int)))] (ta_cons (v := (Enc.enc (x_1.2 : List (Int × Int)))) h11 rfl (Enc.erase_enc (x_1.2 : (List (Int × Int)))) (ta_cons (v := (Enc.enc (x_2.2 : List (Int × Int)))) h13 rfl (Enc.erase_enc (x_2.2 : (List (Int × Int)))) ta_nil)) (H.c22 _ _ _ E_r_3) H.g22 rfl rfl rfl rfl ?_
  refine g1 14 (jb (!r_3)) (rfl : (_ : V) = (jb r_3)) fun h15 => ?_
  refine gq (.nsq (run_cond (t := (!r_3)) h15 h (fun h => ?_) (fun h => ?_)))
  · refine .seq (rg (g0 (jb false) fun h4 => ?_))
    refine gq (.nsq (.ret ?_))
    have hr := Option.some.inj h
    subst hr
    exact rrA (res_tmp h4) rfl
  refine .skip (.nsq (.seq (rg (g0 (jb true) fun h4 => ?_))))
  refine gq (.nsq (.ret ?_))
  have hr := Option.some.inj h
  subst hr
  exact rrA (res_tmp h4) rfl
end
def e8 (F : Nat) : Ent := ent 8 (fun (x : ((Int × (List (Int × Int))) × (Int × (List (Int × Int))) × Unit)) => w_eqGraph F x.1 x.2.1) (fun (r : Bool) => (Enc.enc (r : Bool))) 0 false []
theorem p8 {F : Nat} {x0 : (Int × (List (Int × Int)))} {x1 : (Int × (List (Int × Int)))} {r : Bool} (h : w_eqGraph F x0 x1 = some r) : (e8 F).den [Enc.enc x0, Enc.enc x1] = some (Enc.enc (r : Bool)) := ent_put (x0, x1, ()) h
theorem o8 {D : Den} {σ : Sig} {F : Nat} (hF : Fits2 Try.prog D σ) (H : H8 D σ F) : (e8 F).Ok Try.prog := by
  refine ok_of (f := 8) (show unk 8 = 8 from rfl) (fun args r h => ?_) ⟨Try.f8, Try.func8, rfl, rfl⟩
  obtain ⟨⟨x0, x1, _⟩, y, rfl, hy, rfl⟩ := da_open h
  exact contract_run hF (by kernel_rfl) Try.func8 rfl c8 (show 2 ≤ Try.f8.ntmps by decide) (t8 H x0 x1 _ ⟨rfl, rfl⟩ hy)
/- loop.example/g01109/laws.FnExactFrontBound -/
def A3_1 : AC := (.cond (.t 34) (.seq (.reg [] [((jv 2 (.mov (.k (.bool false)))))] []) .ret) .skip)
def A3_3 : AC := (.cond (.t 39) (.seq (.reg [] [((jv 2 (.mov (.k (.bool false)))))] []) .ret) .skip)
def A3_4 : AC := (.seq (.reg [] [((jv 2 (.mov (.k (.bool true)))))] []) .ret)
def A3_2 : AC := (.seq (.seq (.reg [] [((jv 35 (.load (.ag [.s, .p]) (.t 6)))), ((jv 36 (.load (.ag [.s, .p]) (.t 1)))), (.mk (some 37) none false (.call (.k (.fn 6 [] [])) [(.t 36)])), (.mk (some 38) none false (.call (.k (.fn 8 [] [])) [(.t 35), (.t 37)])), ((jv 39 (.un .not (.t 38))))] []) A3_3) A3_4)
def A3_8 : AC := (.cond (.t 13) (.seq (.reg [] [((jv 2 (.mov (.k (.bool true)))))] []) .ret) .skip)
def A3_12 : AC := (.seq (.seq (.reg [] [(jm 27 7), (jm 28 4), ((jv 29 (.bin .neq (.t 27) (.t 28)))), (jm 30 29), ((jg 31 30 false (.mov (.t 8)))), ((jg 32 30 false (.mov (.t 5)))), ((jg 33 30 false (.beq true (.t 31) (.t 32)))), ((jv 34 (.pick (.t 30) (.k (.bool true)) (.t 33))))] []) A3_1) A3_2)
def A3_11 : AC := (.seq (.reg [] [((jv 23 (.load (.ag [.s, .p]) (.t 6)))), (.mk (some 24) none false (.call (.k (.fn 7 [] [])) [(.t 23)])), (jm 22 24), ((jv 25 (.extS (.t 22) 0))), ((jv 26 (.extS (.t 22) 1))), (jm 7 25), (jm 8 26)] []) A3_12)
def A3_10 : AC := (.seq (.reg [.clr [6]] [((jv 20 (.load (.ag [.s, .p]) (.t 1)))), (.mk (some 21) none false (.call (.k (.fn 6 [] [])) [(.t 20)])), (.mk (some 6) none false (.alloc (.agg [(.int .i64 (.ofNat 0)), (.sl .nl (.ag [.s, .s]) 0 [])]))), (.mk none none false (.store (.ag [.s, .p]) (.t 6) (.t 21)))] []) A3_11)
def A3_9 : AC := (.seq (.reg [] [((jv 15 (.load (.ag [.s, .p]) (.t 1)))), (.mk (some 16) none false (.call (.k (.fn 6 [] [])) [(.t 15)])), (.mk (some 17) none false (.call (.k (.fn 5 [] [])) [(.t 16)])), (jm 14 17), ((jv 18 (.extS (.t 14) 0))), ((jv 19 (.extS (.t 14) 1))), (jm 4 18), (jm 5 19)] []) A3_10)
def A3_7 : AC := (.seq (.seq (.reg [] [(jm 12 3), ((jv 13 (.bin .lss (.t 12) (jn 0))))] []) A3_8) A3_9)
def A3_6 : AC := (.seq (.reg [] [((jv 9 (.load (.ag [.s, .p]) (.t 1)))), (jm 10 3), (.mk (some 11) none false (.call (.k (.fn 4 [] [])) [(.t 9), (.t 10)])), (jm 3 11)] []) A3_7)
def A3_5 : AC := (.seq (.reg [] [((jv 3 (.mov (jn 1048576))))] []) A3_6)
def A3 : AC := (.seq (.reg [.clr [1]] [(.mk (some 1) none false (.box (.t 0))), ((jv 2 (.mov (.k (.bool false)))))] []) A3_5)
def an3 : List An := [{ id := 0, pre := [.clr [1]], ep := [], lin := [], sp := [] }, { id := 6, pre := [.clr [6]], ep := [], lin := [], sp := [] }]
theorem c3 : cC Try.prog Try.f3.ntmps an3 (Try.f3.body.getD .skip) = some A3 := by kernel_rfl
structure H3 (D : Den) (σ : Sig) (F : Nat) : Prop where
  c4 : ∀ (x0 : (Int × (List (Int × Int)))) (x1 : Int) r, w_szGraph F x0 x1 = some r → D 4 [Enc.enc x0, Enc.enc x1] = some (Enc.enc (r : Int))
  g4 : σ 4 = some (0, false)
  c6 : ∀ (x0 : (Int × (List (Int × Int)))) r, w_toGraph F x0 = some r → D 6 [Enc.enc x0] = some (Enc.enc (r : (Int × (List (Int × Int)))))
  g6 : σ 6 = some (0, true)
  c5 : ∀ (x0 : (Int × (List (Int × Int)))) r, s_FrontBound F x0 = some r → D 5 [Enc.enc x0] = some (.tup [Enc.enc (r.1 : Int), Enc.enc (r.2 : Bool)])
  g5 : σ 5 = some (0, false)
  c7 : ∀ (x0 : (Int × (List (Int × Int)))) r, i_FrontBound F x0 = some r → D 7 [Enc.enc x0] = some (.tup [Enc.enc (r.1 : Int), Enc.enc (r.2 : Bool)])
  g7 : σ 7 = some (0, false)
  c8 : ∀ (x0 : (Int × (List (Int × Int)))) (x1 : (Int × (List (Int × Int)))) r, w_eqGraph F x0 x1 = some r → D 8 [Enc.enc x0, Enc.enc x1] = some (Enc.enc (r : Bool))
  g8 : σ 8 = some (0, false)
abbrev R3 (r : Bool) : (Nat → V) → Prop := RR Try.prog [.tmp 2] 0 false (Enc.enc (r : Bool))
section
variable {D : Den} {σ : Sig} {F : Nat} {r : Bool}
def w_FnExactFrontBound_j1 (F : Nat) (x_1 : (Int × (List (Int × Int)))) (r_5 : (Int × (List (Int × Int))))  (x_7 : Bool) : Option Bool :=
  bif x_7 then
    some false
  else
    (w_toGraph F x_1).bind fun r_8 =>
    (w_eqGraph F r_5 r_8).bind fun r_9 =>
    bif (!r_9) then
      some false
    else
      some true
theorem t_f3_j1 (H : H3 D σ F) (x_1 : (Int × (List (Int × Int)))) (r_5 : (Int × (List (Int × Int))))  (x_7 : Bool) (s : Nat → V) (hs : Facts [(1, (.ref (.bx 1) 0 [] (.agg [(ji x_1.1), (Enc.enc (x_1.2 : List (Int × Int)))]))), (2, (jb false)), (6, (.ref (.bx 6) 0 [] (.agg [(ji r_5.1), (Enc.enc (r_5.2 : List (Int × Int)))]))), (34, (jb x_7))] s) (h : w_FnExactFrontBound_j1 F x_1 r_5  x_7 = some r) : Run D σ (R3 r) (.nrm [.sq A3_1, .sq A3_2]) s := by
  unfold w_FnExactFrontBound_j1 at h
  obtain ⟨h1, h2, h6, h34⟩ := hs
  refine .nsq (run_cond (t := x_7) h34 h (fun h => ?_) (fun h => ?_))
  · refine .seq (rg (g0 (jb false) fun h2 => ?_))
    refine gq (.nsq (.ret ?_))
    have hr := Option.some.inj h
    subst hr
    exact rrA (res_tmp h2) rfl
  refine .skip (.nsq (.seq (.seq (rg (g1 6 (.agg [(ji r_5.1), (Enc.enc (r_5.2 : List (Int × Int)))]) h6 fun h35 => ?_)))))
  refine g1 1 (.agg [(ji x_1.1), (Enc.enc (x_1.2 : List (Int × Int)))]) h1 fun h36 => ?_
  obtain ⟨r_8, E_r_8, h⟩ := bind_some h
  refine g_call (m := 0) (al := true) (r := (Enc.enc (r_8 : (Int × (List (Int × Int)))))) [Enc.enc (x_1 : (Int × (List (Int × Int))))] (ta_cons (v := (.agg [(ji x_1.1), (Enc.enc (x_1.2 : List (Int × Int)))])) h36 rfl (Enc.erase_enc (x_1 : (Int × (List (Int × Int))))) ta_nil) (H.c6 _ _ E_r_8) H.g6 (hal_of (ht_cons (v := (.agg [(ji x_1.1), (Enc.enc (x_1.2 : List (Int × Int)))])) h36 rfl rfl ht_nil)) rfl rfl rfl ?_
  obtain ⟨r_9, E_r_9, h⟩ := bind_some h
  refine g_call (m := 0) (al := false) (r := (Enc.enc (r_9 : Bool))) [Enc.enc (r_5 : (Int × (List (Int × Int)))), Enc.enc (r_8 : (Int × (List (Int × Int))))] (ta_cons (v := (.agg [(ji r_5.1), (Enc.enc (r_5.2 : List (Int × Int)))])) h35 rfl (Enc.erase_enc (r_5 : (Int × (List (Int × Int))))) (ta_cons (v := (.agg [(ji r_8.1), (Enc.enc (r_8.2 : List (Int × Int)))])) rfl rfl (Enc.erase_enc (r_8 : (Int × (List (Int × Int))))) ta_nil)) (H.c8 _ _ _ E_r_9) H.g8 rfl rfl rfl rfl ?_
  refine g1 38 (jb (!r_9)) (rfl : (_ : V) = (jb r_9)) fun h39 => ?_
  refine gq (.nsq (run_cond (t := (!r_9)) h39 h (fun h => ?_) (fun h => ?_)))
  · refine .seq (rg (g0 (jb false) fun h2 => ?_))
    refine gq (.nsq (.ret ?_))
    have hr := Option.some.inj h
    subst hr
    exact rrA (res_tmp h2) rfl
  refine .skip (.nsq (.seq (rg (g0 (jb true) fun h2 => ?_))))
  refine gq (.nsq (.ret ?_))
  have hr := Option.some.inj h
  subst hr
  exact rrA (res_tmp h2) rfl
def w_FnExactFrontBound (F : Nat) (x_1 : (Int × (List (Int × Int)))) : Option Bool :=
  (w_szGraph F x_1 1048576).bind fun r_2 =>
  bif decide (r_2 < 0) then
    some true
  else
    (w_toGraph F x_1).bind fun r_3 =>
    (s_FrontBound F r_3).bind fun r_4 =>
    (w_toGraph F x_1).bind fun r_5 =>
    (i_FrontBound F r_5).bind fun r_6 =>
    bif (r_6.1 != r_4.1) then
      w_FnExactFrontBound_j1 F x_1 r_5 true
    else
      w_FnExactFrontBound_j1 F x_1 r_5 (r_6.2 != r_4.2)
theorem t3 (H : H3 D σ F) (x_1 : (Int × (List (Int × Int)))) (s : Nat → V) (hs : Facts [(0, (.agg [(ji x_1.1), (Enc.enc (x_1.2 : List (Int × Int)))]))] s) (h : w_FnExactFrontBound F x_1 = some r) : Run D σ (R3 r) (.run A3 []) s := by
  unfold w_FnExactFrontBound at h
  have h0 := hs
  refine .seq (run_reg ?_)
  refine e_clr ?_
  refine ez [(0, _), (1, _)] ⟨(keep_clear (pk := [1]) h0 rfl (map_agg (maps_cons mi (maps_cons me maps_nil)))), (gone_clear (pk := [1]) (t := 1) rfl)⟩ ?_
  rintro s ⟨h0, h1⟩
  refine g_box (.agg [(ji x_1.1), (Enc.enc (x_1.2 : List (Int × Int)))]) (rd_of h0 rfl) h1 rfl ?_
  refine g0 (jb false) fun h2 => ?_
  refine gq (.nsq (.seq (rg (g0 (ji 1048576) fun h3 => gq (.nsq (.seq (rg (g1 1 (.agg [(ji x_1.1), (Enc.enc (x_1.2 : List (Int × Int)))]) (rfl : (_ : V) = (.ref (.bx 1) 0 [] (.agg [(ji x_1.1), (Enc.enc (x_1.2 : List (Int × Int)))]))) fun h9 => ?_))))))))
  refine gm h3 fun h10 => ?_
  obtain ⟨r_2, E_r_2, h⟩ := bind_some h
  refine g_call (m := 0) (al := false) (r := (Enc.enc (r_2 : Int))) [Enc.enc (x_1 : (Int × (List (Int × Int)))), Enc.enc (1048576 : Int)] (ta_cons (v := (.agg [(ji x_1.1), (Enc.enc (x_1.2 : List (Int × Int)))])) h9 rfl (Enc.erase_enc (x_1 : (Int × (List (Int × Int))))) (ta_cons (v := (ji 1048576)) h10 rfl rfl ta_nil)) (H.c4 _ _ _ E_r_2) H.g4 rfl rfl rfl rfl ?_
  refine gm (rfl : (_ : V) = (ji r_2)) fun h3 => ?_
  refine gq (.nsq (.seq (.seq (rg (gm h3 fun h12 => g1 12 (jb (decide (r_2 < 0))) h12 fun h13 => ?_)))))
  refine gq (.nsq (run_cond (t := decide (r_2 < 0)) h13 h (fun h => ?_) (fun h => ?_)))
  · refine .seq (rg (g0 (jb true) fun h2 => ?_))
    refine gq (.nsq (.ret ?_))
    have hr := Option.some.inj h
    subst hr
    exact rrA (res_tmp h2) rfl
  refine .skip (.nsq (.seq (rg (g1 1 (.agg [(ji x_1.1), (Enc.enc (x_1.2 : List (Int × Int)))]) (rfl : (_ : V) = (.ref (.bx 1) 0 [] (.agg [(ji x_1.1), (Enc.enc (x_1.2 : List (Int × Int)))]))) fun h15 => ?_))))
  obtain ⟨r_3, E_r_3, h⟩ := bind_some h
  refine g_call (m := 0) (al := true) (r := (Enc.enc (r_3 : (Int × (List (Int × Int)))))) [Enc.enc (x_1 : (Int × (List (Int × Int))))] (ta_cons (v := (.agg [(ji x_1.1), (Enc.enc (x_1.2 : List (Int × Int)))])) h15 rfl (Enc.erase_enc (x_1 : (Int × (List (Int × Int))))) ta_nil) (H.c6 _ _ E_r_3) H.g6 (hal_of (ht_cons (v := (.agg [(ji x_1.1), (Enc.enc (x_1.2 : List (Int × Int)))])) h15 rfl rfl ht_nil)) rfl rfl rfl ?_
  obtain ⟨r_4, E_r_4, h⟩ := bind_some h
  refine g_call (m := 0) (al := false) (r := (.tup [Enc.enc (r_4.1 : Int), Enc.enc (r_4.2 : Bool)])) [Enc.enc (r_3 : (Int × (List (Int × Int))))] (ta_cons (v := (.agg [(ji r_3.1), (Enc.enc (r_3.2 : List (Int × Int)))])) rfl rfl (Enc.erase_enc (r_3 : (Int × (List (Int × Int))))) ta_nil) (H.c5 _ _ E_r_4) H.g5 rfl rfl rfl rfl ?_
  refine gm (rfl : (_ : V) = (.tup [(ji r_4.1), (jb r_4.2)])) fun h14 => ?_
  refine g1 14 (ji r_4.1) h14 fun h18 => ?_
  refine g1 14 (jb r_4.2) h14 fun h19 => ?_
  refine gm h18 fun h4 => gm h19 fun h5 => gq (.nsq (.seq (run_reg ?_)))
  refine e_clr ?_
  refine ez [(1, _), (2, _), (4, _), (5, _), (6, _)] ⟨(keep_clear (pk := [6]) rfl rfl (map_bx rfl (map_agg (maps_cons mi (maps_cons me maps_nil))))), (keep_clear (pk := [6]) h2 rfl mb), (keep_clear (pk := [6]) h4 rfl mi), (keep_clear (pk := [6]) h5 rfl mb), (gone_clear (pk := [6]) (t := 6) rfl)⟩ ?_
  rintro s ⟨h1, h2, h4, h5, h6⟩
  refine g1 1 (.agg [(ji x_1.1), (Enc.enc (x_1.2 : List (Int × Int)))]) h1 fun h20 => ?_
  obtain ⟨r_5, E_r_5, h⟩ := bind_some h
  refine g_call (m := 0) (al := true) (r := (Enc.enc (r_5 : (Int × (List (Int × Int)))))) [Enc.enc (x_1 : (Int × (List (Int × Int))))] (ta_cons (v := (.agg [(ji x_1.1), (Enc.enc (x_1.2 : List (Int × Int)))])) h20 rfl (Enc.erase_enc (x_1 : (Int × (List (Int × Int))))) ta_nil) (H.c6 _ _ E_r_5) H.g6 (hal_of (ht_cons (v := (.agg [(ji x_1.1), (Enc.enc (x_1.2 : List (Int × Int)))])) h20 rfl rfl ht_nil)) rfl rfl rfl ?_
  refine g_alloc h6 ?_
  refine g_store (.agg [(ji r_5.1), (Enc.enc (r_5.2 : List (Int × Int)))]) (rd_of rfl rfl) (rd_of rfl rfl) (by refine ⟨by decide, by decide, rfl, rfl, rfl, ?_⟩; first | rfl | simp [V.toks, V.tokss, Enc.toks_enc]) ?_
  refine gz [(1, (.ref (.bx 1) 0 [] (.agg [(ji x_1.1), (Enc.enc (x_1.2 : List (Int × Int)))]))), (2, (jb false)), (4, (ji r_4.1)), (5, (jb r_4.2)), (6, (.ref (.bx 6) 0 [] (.agg [(ji r_5.1), (Enc.enc (r_5.2 : List (Int × Int)))])))] ⟨(keep_mut h1 (mut_ref_ne rfl rfl (mut_agg (muts_cons rfl (muts_cons (Enc.mut_enc _ _ _ _ (x_1.2 : List (Int × Int))) rfl))))), (keep_mut h2 rfl), (keep_mut h4 rfl), (keep_mut h5 rfl), (keep_mut rfl rfl)⟩ ?_
  rintro s ⟨h1, h2, h4, h5, h6⟩
  refine .nsq (.seq (rg (g1 6 (.agg [(ji r_5.1), (Enc.enc (r_5.2 : List (Int × Int)))]) h6 fun h23 => ?_)))
  obtain ⟨r_6, E_r_6, h⟩ := bind_some h
  refine g_call (m := 0) (al := false) (r := (.tup [Enc.enc (r_6.1 : Int), Enc.enc (r_6.2 : Bool)])) [Enc.enc (r_5 : (Int × (List (Int × Int))))] (ta_cons (v := (.agg [(ji r_5.1), (Enc.enc (r_5.2 : List (Int × Int)))])) h23 rfl (Enc.erase_enc (r_5 : (Int × (List (Int × Int))))) ta_nil) (H.c7 _ _ E_r_6) H.g7 rfl rfl rfl rfl ?_
  refine gm (rfl : (_ : V) = (.tup [(ji r_6.1), (jb r_6.2)])) fun h22 => ?_
  refine g1 22 (ji r_6.1) h22 fun h25 => ?_
  refine g1 22 (jb r_6.2) h22 fun h26 => ?_
  refine gm h25 fun h7 => gm h26 fun h8 => gq (.nsq (.seq (.seq (rg (gm h7 fun h27 => gm h4 fun h28 => g2 27 28 (jb (r_6.1 != r_4.1)) h27 h28 fun h29 => ?_)))))
  refine gm h29 fun h30 => split_on (c := (r_6.1 != r_4.1)) h (fun hg4 h => ?_) (fun hg4 h => ?_)
  · refine g_no (h30.trans (congrArg V.bool hg4)) ?_
    refine g_no (h30.trans (congrArg V.bool hg4)) ?_
    refine g_no (h30.trans (congrArg V.bool hg4)) ?_
    refine g2 30 33 (jb true) (h30.trans (congrArg V.bool hg4)) (rfl : (_ : V) = (.tup [])) fun h34 => ?_
    refine gq ?_
    exact t_f3_j1 H x_1 r_5 true _ ⟨h1, h2, h6, h34⟩ h
  refine g_yes (h30.trans (congrArg V.bool hg4)) (gm h8 fun h31 => ?_)
  refine g_yes (h30.trans (congrArg V.bool hg4)) (gm h5 fun h32 => ?_)
  refine g_yes (h30.trans (congrArg V.bool hg4)) (g2 31 32 (jb (r_6.2 != r_4.2)) h31 h32 fun h33 => ?_)
  refine g2 30 33 (jb (r_6.2 != r_4.2)) (h30.trans (congrArg V.bool hg4)) h33 fun h34 => ?_
  refine gq ?_
  exact t_f3_j1 H x_1 r_5 (r_6.2 != r_4.2) _ ⟨h1, h2, h6, h34⟩ h
end
def e3 (F : Nat) : Ent := ent 3 (fun (x : ((Int × (List (Int × Int))) × Unit)) => w_FnExactFrontBound F x.1) (fun (r : Bool) => (Enc.enc (r : Bool))) 0 false []
theorem p3 {F : Nat} {x0 : (Int × (List (Int × Int)))} {r : Bool} (h : w_FnExactFrontBound F x0 = some r) : (e3 F).den [Enc.enc x0] = some (Enc.enc (r : Bool)) := ent_put (x0, ()) h
theorem o3 {D : Den} {σ : Sig} {F : Nat} (hF : Fits2 Try.prog D σ) (H : H3 D σ F) : (e3 F).Ok Try.prog := by
  refine ok_of (f := 3) (show unk 3 = 3 from rfl) (fun args r h => ?_) ⟨Try.f3, Try.func3, rfl, rfl⟩
  obtain ⟨⟨x0, _⟩, y, rfl, hy, rfl⟩ := da_open h
  exact contract_run hF (by kernel_rfl) Try.func3 rfl c3 (show 1 ≤ Try.f3.ntmps by decide) (t3 H x0 _ rfl hy)
end Go.Zq
