/- Functions of the program as typed functions, and that the machine runs as they say (part 3). No further condition. -/
import Derived.Test.YthblbfcloccopaaK2
import Derived.Test.YthblbfcloccopaaProg
import Derived.Test.YthblbfcloccopaaChecked
import Derived.KernelRfl
import Derived.Test.YthblbfcloccopaaG2
set_option linter.unusedVariables false
set_option linter.unusedSimpArgs false
/- Functions of the program, as typed functions, and that the machine runs as they say. -/
namespace Go.Zq
open Go.Proofs
/- loop.example/g01109/impl.setOf -/
def A121_2 : AC := (AC.cond (O.t 8) AC.skip (AC.exit 0))
def A121_4 : AC := (AC.cond (O.t 15) (AC.reg [.clr [18, 19]] [(I.mk (some 16) none false (X.v (A.mov (O.t 3)))), (I.mk (some 17) none false (X.v (A.mov (O.t 4)))), (I.mk (some 18) none false (X.lit (V.int IntKind.i64 (Int.ofNat 0)) 1 [(0, 0, (O.t 17))])), (I.mk (some 19) none false (X.app Sh.s (O.t 16) (O.t 18))), (I.mk (some 3) none false (X.v (A.mov (O.t 19))))] [.home 19 3]) AC.skip)
def A121_5 : AC := (AC.reg [] [(I.mk (some 9) none false (X.v (A.mov (O.t 4)))), (I.mk (some 10) none false (X.v (A.bin BinOp.add (O.t 9) (O.k (V.int IntKind.i64 (Int.ofNat 1)))))), (I.mk (some 4) none false (X.v (A.mov (O.t 10))))] [])
def A121_3 : AC := (AC.seq (AC.block 1 (AC.seq (AC.reg [] [(I.mk (some 11) none false (X.v (A.mov (O.t 0)))), (I.mk (some 12) none false (X.v (A.mov (O.t 4)))), (I.mk (some 13) none false (X.v (A.bin BinOp.shr (O.t 11) (O.t 12)))), (I.mk (some 14) none false (X.v (A.bin BinOp.and (O.t 13) (O.k (V.int IntKind.i64 (Int.ofNat 1)))))), (I.mk (some 15) none false (X.v (A.bin BinOp.eql (O.t 14) (O.k (V.int IntKind.i64 (Int.ofNat 1))))))] []) A121_4)) A121_5)
def A121_1 : AC := (AC.seq (AC.seq (AC.reg [] [(I.mk (some 5) none false (X.v (A.mov (O.t 0)))), (I.mk (some 6) none false (X.v (A.mov (O.t 4)))), (I.mk (some 7) none false (X.v (A.bin BinOp.shr (O.t 5) (O.t 6)))), (I.mk (some 8) none false (X.v (A.bin BinOp.neq (O.t 7) (O.k (V.int IntKind.i64 (Int.ofNat 0))))))] []) A121_2) A121_3)
def A121_6 : AC := (AC.seq (AC.reg [] [(I.mk (some 20) none false (X.v (A.mov (O.t 3)))), (I.mk (some 2) none false (X.v (A.mov (O.t 20))))] [.home 3 2]) AC.ret)
def A121_9 : AC := (AC.block 0 (AC.loop A121_1))
def A121_8 : AC := (AC.seq (AC.seq (AC.reg [] [(I.mk (some 4) none false (X.v (A.mov (O.k (V.int IntKind.i64 (Int.ofNat 0))))))] []) A121_9) A121_6)
def A121_7 : AC := (AC.seq (AC.reg [] [(I.mk (some 3) none false (X.v (A.mov (O.k (V.sl Tok.nl Sh.s 0 [])))))] []) A121_8)
def A121 : AC := (AC.seq (AC.reg [] [(I.mk (some 2) none false (X.v (A.mov (O.k (V.sl Tok.nl Sh.s 0 [])))))] []) A121_7)
def an121 : List An := [{ id := 6, pre := [.clr [18, 19]], ep := [.home 19 3], lin := [], sp := [] }, { id := 7, pre := [], ep := [.home 3 2], lin := [], sp := [] }]
theorem c121 : cC Try.prog Try.f121.ntmps an121 (Try.f121.body.getD .skip) = some A121 := by kernel_rfl
structure H121 (D : Den) (σ : Sig) (F : Nat) : Prop where
  mk ::
abbrev R121 (r : (List Int)) : (Nat → V) → Prop := RR Try.prog [.tmp 2] 0 true (Enc.enc (r : (List Int)))
section
variable {D : Den} {σ : Sig} {F : Nat} {r : (List Int)}
def i_setOf_j1 (F : Nat) (set_1 : Int) (x_8 : Int) (c1 : (NL Int) → Int → Option (List Int)) (list_17 : (NL Int)) : Option (List Int) :=
  c1 list_17 (w64 (x_8 + 1))
theorem t_f121_j1 (H : H121 D σ F) (set_1 : Int) (x_8 : Int) (c1 : (NL Int) → Int → Option (List Int)) (Hc1 : ∀ (list_7 : (NL Int)) (x_8 : Int) (s : Nat → V), Facts [(0, (.int .i64 set_1)), (2, (.sl .nl (Enc.shp Int) 0 [])), (3, (encO (.at 3 []) (list_7 : NL Int))), (4, (.int .i64 x_8))] s → c1 list_7 x_8 = some r → Run D σ (R121 r) (.run A121_1 [.lp A121_1, .bk 0, .sq A121_6]) s) (list_17 : (NL Int)) (s : Nat → V) (hs : Facts [(0, (.int .i64 set_1)), (2, (.sl .nl (Enc.shp Int) 0 [])), (3, (encO (.at 3 []) (list_17 : NL Int))), (4, (.int .i64 x_8))] s) (h : i_setOf_j1 F set_1 x_8 c1 list_17 = some r) : Run D σ (R121 r) (.nrm [.bk 1, .sq A121_5, .lp A121_1, .bk 0, .sq A121_6]) s := by
  unfold i_setOf_j1 at h
  obtain ⟨h0, h2, h3, h4⟩ := hs
  refine .nbk ?_
  refine .nsq ?_
  refine run_reg ?_
  refine e_end ?_
  refine g_v1 (t := 4) (u := (.int .i64 x_8)) (.int .i64 x_8) h4 rfl rfl ?_
  refine g_v1 (t := 9) (u := (.int .i64 x_8)) (.int .i64 (w64 (x_8 + 1))) rfl rfl rfl ?_
  refine g_v1 (t := 10) (u := (.int .i64 (w64 (x_8 + 1)))) (.int .i64 (w64 (x_8 + 1))) rfl rfl rfl ?_
  refine g_end ?_
  refine e_end ?_
  refine renew [(0, (.int .i64 set_1)), (2, (.sl .nl (Enc.shp Int) 0 [])), (3, (encO (.at 3 []) (list_17 : NL Int))), (4, (.int .i64 (w64 (x_8 + 1))))] ⟨h0, h2, h3, rfl⟩ ?_
  rintro s ⟨h0, h2, h3, h4⟩
  refine .nlp ?_
  exact Hc1 list_17 (w64 (x_8 + 1)) _ ⟨h0, h2, h3, h4⟩ h
def i_setOf_l1 (F : Nat) (set_1 : Int)  : Nat → (NL Int) → Int → Option (List Int)
  | 0, _, _ => none
  | k + 1, list_7, x_8 =>
    (shrI .i64 set_1 x_8).bind fun q_14 =>
    bif (q_14 != 0) then
      (shrI .i64 set_1 x_8).bind fun q_15 =>
      bif ((iand .i64 q_15 1) == 1) then
        (appL list_7.list [x_8]).bind fun ap_18 =>
        i_setOf_j1 F set_1 x_8 (i_setOf_l1 F set_1 k) (.of ap_18)
      else
        i_setOf_j1 F set_1 x_8 (i_setOf_l1 F set_1 k) list_7
    else
      some list_7.list
theorem t_f121_l1 (H : H121 D σ F) (set_1 : Int)  : ∀ (k : Nat) (list_7 : (NL Int)) (x_8 : Int) (s : Nat → V), Facts [(0, (.int .i64 set_1)), (2, (.sl .nl (Enc.shp Int) 0 [])), (3, (encO (.at 3 []) (list_7 : NL Int))), (4, (.int .i64 x_8))] s → i_setOf_l1 F set_1 k list_7 x_8 = some r → Run D σ (R121 r) (.run A121_1 [.lp A121_1, .bk 0, .sq A121_6]) s := by
  intro k
  induction k with
  | zero => intro list_7 x_8 s _ h; exact nomatch (h : (none : Option _) = some r)
  | succ k ih =>
    intro list_7 x_8 s hs h
    rw [i_setOf_l1] at h
    obtain ⟨h0, h2, h3, h4⟩ := hs
    refine .seq ?_
    refine .seq ?_
    refine run_reg ?_
    refine e_end ?_
    refine g_v1 (t := 0) (u := (.int .i64 set_1)) (.int .i64 set_1) h0 rfl rfl ?_
    refine g_v1 (t := 4) (u := (.int .i64 x_8)) (.int .i64 x_8) h4 rfl rfl ?_
    obtain ⟨q_14, E_q_14, h⟩ := bind_some h
    refine g_v (.int .i64 q_14) (ev_shr rfl rfl E_q_14) ?_
    refine g_v1 (t := 7) (u := (.int .i64 q_14)) (.bool (q_14 != 0)) rfl rfl rfl ?_
    refine g_end ?_
    refine e_end ?_
    refine renew [(0, (.int .i64 set_1)), (2, (.sl .nl (Enc.shp Int) 0 [])), (3, (encO (.at 3 []) (list_7 : NL Int))), (4, (.int .i64 x_8)), (8, (.bool (q_14 != 0)))] ⟨h0, h2, h3, h4, rfl⟩ ?_
    rintro s ⟨h0, h2, h3, h4, h8⟩
    refine .nsq ?_
    refine run_cond (t := (q_14 != 0)) h8 h (fun h => ?_) (fun h => ?_)
    · refine .skip ?_
      refine .nsq ?_
      refine .seq ?_
      refine .block ?_
      refine .seq ?_
      refine run_reg ?_
      refine e_end ?_
      refine g_v1 (t := 0) (u := (.int .i64 set_1)) (.int .i64 set_1) h0 rfl rfl ?_
      refine g_v1 (t := 4) (u := (.int .i64 x_8)) (.int .i64 x_8) h4 rfl rfl ?_
      obtain ⟨q_15, E_q_15, h⟩ := bind_some h
      refine g_v (.int .i64 q_15) (ev_shr rfl rfl E_q_15) ?_
      refine g_v1 (t := 13) (u := (.int .i64 q_15)) (.int .i64 (iand .i64 q_15 1)) rfl rfl rfl ?_
      refine g_v1 (t := 14) (u := (.int .i64 (iand .i64 q_15 1))) (.bool ((iand .i64 q_15 1) == 1)) rfl rfl rfl ?_
      refine g_end ?_
      refine e_end ?_
      refine renew [(0, (.int .i64 set_1)), (2, (.sl .nl (Enc.shp Int) 0 [])), (3, (encO (.at 3 []) (list_7 : NL Int))), (4, (.int .i64 x_8)), (15, (.bool ((iand .i64 q_15 1) == 1)))] ⟨h0, h2, h3, h4, rfl⟩ ?_
      rintro s ⟨h0, h2, h3, h4, h15⟩
      refine .nsq ?_
      refine run_cond (t := ((iand .i64 q_15 1) == 1)) h15 h (fun h => ?_) (fun h => ?_)
      · refine run_reg ?_
        refine e_clr ?_
        refine e_end ?_
        refine g_v (encO (.at 3 []) (list_7 : NL Int)) (ev_mov (keep_clear (s := s) (pk := [18, 19]) h3 rfl (map_encO (r := 3) (p := []) rfl rfl)) ok_encO) ?_
        refine g_v1 (t := 4) (u := (.int .i64 x_8)) (.int .i64 x_8) (keep_clear (s := s) (pk := [18, 19]) h4 rfl rfl) rfl rfl ?_
        refine g_litL [(17, (.int .i64 x_8))] [Enc.enc (x_8 : Int)] rfl rfl rfl (gone_clear (s := s) (pk := [18, 19]) (t := 18) rfl) ?_
        obtain ⟨ap_18, E_ap_18, h⟩ := bind_some h
        refine g_app (q := 3) (p := []) (o := (list_7 : NL Int)) (ys := ([x_8] : List Int)) (t2 := (.at 18 [])) (lo2 := 0) rfl rfl rfl (gone_clear (s := s) (pk := [18, 19]) (t := 19) rfl) (appN_L (o := (list_7 : NL Int)) E_ap_18 (by split <;> simp)) (fun s_17 ha_17 => ?_)
        refine g_v1 (t := 19) (u := (encO (.at 19 []) (.of (ap_18 : List Int)))) (encO (.at 19 []) (.of (ap_18 : List Int))) rfl rfl rfl ?_
        refine g_end ?_
        refine e_home (r := 19) (x := 3) (v := (encO (.at 19 []) (.of (ap_18 : List Int)))) (by exact rfl) rfl (fun s_18 hg_18 => ?_)
        refine e_end ?_
        refine renew [(0, (.int .i64 set_1)), (2, (.sl .nl (Enc.shp Int) 0 [])), (3, (encO (.at 3 []) (.of (ap_18 : List Int)))), (4, (.int .i64 x_8))] ⟨(hg_18 0 (.int .i64 set_1) (.int .i64 set_1) (show s_17 0 = (.int .i64 set_1) from keep_app ha_17 (keep_clear (s := s) (pk := [18, 19]) h0 rfl rfl) rfl) rfl), (hg_18 2 (.sl .nl (Enc.shp Int) 0 []) (.sl .nl (Enc.shp Int) 0 []) (show s_17 2 = (.sl .nl (Enc.shp Int) 0 []) from keep_app ha_17 (keep_clear (s := s) (pk := [18, 19]) h2 rfl rfl) rfl) rfl), (hg_18 3 (encO (.at 19 []) (.of (ap_18 : List Int))) (encO (.at 3 []) (.of (ap_18 : List Int))) rfl (map_encO (r := 19) (p := []) rfl rfl)), (hg_18 4 (.int .i64 x_8) (.int .i64 x_8) (show s_17 4 = (.int .i64 x_8) from keep_app ha_17 (keep_clear (s := s) (pk := [18, 19]) h4 rfl rfl) rfl) rfl)⟩ ?_
        rintro s ⟨h0, h2, h3, h4⟩
        exact t_f121_j1 H set_1 x_8 (i_setOf_l1 F set_1 k) ih (.of ap_18) _ ⟨h0, h2, h3, h4⟩ h
      · refine .skip ?_
        exact t_f121_j1 H set_1 x_8 (i_setOf_l1 F set_1 k) ih list_7 _ ⟨h0, h2, h3, h4⟩ h
    · refine .exit ?_
      refine .esq ?_
      refine .elp ?_
      refine .ebk ?_
      refine .nsq ?_
      refine .seq ?_
      refine run_reg ?_
      refine e_end ?_
      refine g_v (encO (.at 3 []) (list_7 : NL Int)) (ev_mov h3 ok_encO) ?_
      refine g_v (encO (.at 3 []) (list_7 : NL Int)) (ev_mov rfl ok_encO) ?_
      refine g_end ?_
      refine e_home (r := 3) (x := 2) (v := (encO (.at 3 []) (list_7 : NL Int))) (by exact rfl) ok_encO (fun s_19 hg_19 => ?_)
      refine e_end ?_
      refine renew [(2, (encO (.at 2 []) (list_7 : NL Int)))] (hg_19 2 (encO (.at 3 []) (list_7 : NL Int)) (encO (.at 2 []) (list_7 : NL Int)) rfl (map_encO (r := 3) (p := []) rfl rfl)) ?_
      rintro s h2
      refine .nsq ?_
      refine .ret ?_
      have hr := Option.some.inj h
      subst hr
      exact rrA (res_tmp h2) (fin_ret1 (fin_own (o := list_7)))
def i_setOf (F : Nat) (set_1 : Int) : Option (List Int) :=
  i_setOf_l1 F set_1 F .nil 0
theorem t121 (H : H121 D σ F) (set_1 : Int) (s : Nat → V) (hs : Facts [(0, (.int .i64 set_1))] s) (h : i_setOf F set_1 = some r) : Run D σ (R121 r) (.run A121 []) s := by
  unfold i_setOf at h
  have h0 := hs
  refine .seq ?_
  refine run_reg ?_
  refine e_end ?_
  refine g_v0 (.sl .nl (Enc.shp Int) 0 []) rfl rfl ?_
  refine g_end ?_
  refine e_end ?_
  refine renew [(0, (.int .i64 set_1)), (2, (.sl .nl (Enc.shp Int) 0 []))] ⟨h0, rfl⟩ ?_
  rintro s ⟨h0, h2⟩
  refine .nsq ?_
  refine .seq ?_
  refine run_reg ?_
  refine e_end ?_
  refine g_v0 (.sl .nl (Enc.shp Int) 0 []) rfl rfl ?_
  refine g_end ?_
  refine e_end ?_
  refine renew [(0, (.int .i64 set_1)), (2, (.sl .nl (Enc.shp Int) 0 [])), (3, (.sl .nl (Enc.shp Int) 0 []))] ⟨h0, h2, rfl⟩ ?_
  rintro s ⟨h0, h2, h3⟩
  refine .nsq ?_
  refine .seq ?_
  refine .seq ?_
  refine run_reg ?_
  refine e_end ?_
  refine g_v0 (.int .i64 0) rfl rfl ?_
  refine g_end ?_
  refine e_end ?_
  refine renew [(0, (.int .i64 set_1)), (2, (.sl .nl (Enc.shp Int) 0 [])), (3, (.sl .nl (Enc.shp Int) 0 [])), (4, (.int .i64 0))] ⟨h0, h2, h3, rfl⟩ ?_
  rintro s ⟨h0, h2, h3, h4⟩
  refine .nsq ?_
  refine .block ?_
  refine .loop ?_
  exact t_f121_l1 H set_1 F .nil 0 _ ⟨h0, h2, h3, h4⟩ h
end
def e121 (F : Nat) : Ent := ⟨121, dn1 (i_setOf F) (fun (r : (List Int)) => (Enc.enc (r : (List Int)))), 0, true⟩
theorem o121 {D : Den} {σ : Sig} {F : Nat} (hF : Fits2 Try.prog D σ) (H : H121 D σ F) : (e121 F).Ok Try.prog := by
  refine ⟨fun args r h => ?_, ⟨Try.f121, Try.func121, rfl, rfl⟩⟩
  obtain ⟨x0, y, rfl, hy, rfl⟩ := dn1_open h
  exact contract_run hF (by kernel_rfl) Try.func121 rfl c121 (show 1 ≤ Try.f121.ntmps by decide) (t121 H x0 _ rfl hy)
/- (loop.example/g01109/impl.net).bestRoot -/
def A113_5 : AC := (AC.cond (O.t 35) (AC.reg [] [(I.mk (some 36) none false (X.v (A.mov (O.t 9)))), (I.mk (some 7) none false (X.v (A.mov (O.t 36))))] []) AC.skip)
def A113_4 : AC := (AC.seq (AC.reg [] [(I.mk (some 17) none false (X.v (A.mov (O.t 7)))), (I.mk (some 18) none false (X.v (A.bin BinOp.lss (O.t 17) (O.k (V.int IntKind.i64 (Int.ofNat 0)))))), (I.mk (some 19) none false (X.v (A.mov (O.t 18)))), (I.mk (some 20) (some (19, false)) false (X.v (A.mov (O.t 1)))), (I.mk (some 21) (some (19, false)) false (X.v (A.mov (O.t 2)))), (I.mk (some 22) (some (19, false)) false (X.v (A.mov (O.t 9)))), (I.mk (some 23) (some (19, false)) false (X.v (A.bin BinOp.shl (O.k (V.int IntKind.i64 (Int.ofNat 1))) (O.t 22)))), (I.mk (some 24) (some (19, false)) false (X.v (A.bin BinOp.andNot (O.t 21) (O.t 23)))), (I.mk (some 25) (some (19, false)) false (X.v (A.idx (O.t 20) (O.t 24) 1))), (I.mk (some 26) (some (19, false)) false (X.v (A.load Sh.s (O.t 25)))), (I.mk (some 27) (some (19, false)) false (X.v (A.mov (O.t 1)))), (I.mk (some 28) (some (19, false)) false (X.v (A.mov (O.t 2)))), (I.mk (some 29) (some (19, false)) false (X.v (A.mov (O.t 7)))), (I.mk (some 30) (some (19, false)) false (X.v (A.bin BinOp.shl (O.k (V.int IntKind.i64 (Int.ofNat 1))) (O.t 29)))), (I.mk (some 31) (some (19, false)) false (X.v (A.bin BinOp.andNot (O.t 28) (O.t 30)))), (I.mk (some 32) (some (19, false)) false (X.v (A.idx (O.t 27) (O.t 31) 1))), (I.mk (some 33) (some (19, false)) false (X.v (A.load Sh.s (O.t 32)))), (I.mk (some 34) (some (19, false)) false (X.v (A.bin BinOp.lss (O.t 26) (O.t 33)))), (I.mk (some 35) none false (X.v (A.pick (O.t 19) (O.k (V.bool true)) (O.t 34))))] []) A113_5)
def A113_6 : AC := (AC.reg [] [(I.mk (some 37) none false (X.v (A.bin BinOp.add (O.t 13) (O.k (V.int IntKind.i64 (Int.ofNat 1)))))), (I.mk (some 13) none false (X.v (A.mov (O.t 37))))] [])
def A113_3 : AC := (AC.seq (AC.block 1 (AC.seq (AC.reg [] [(I.mk (some 15) none false (X.v (A.idx (O.t 11) (O.t 13) 1))), (I.mk (some 16) none false (X.v (A.load Sh.s (O.t 15)))), (I.mk (some 9) none false (X.v (A.mov (O.t 16))))] []) A113_4)) A113_6)
def A113_2 : AC := (AC.seq (AC.cond (O.t 14) AC.skip (AC.exit 0)) A113_3)
def A113_1 : AC := (AC.seq (AC.reg [] [(I.mk (some 14) none false (X.v (A.bin BinOp.lss (O.t 13) (O.t 12))))] []) A113_2)
def A113_7 : AC := (AC.seq (AC.reg [] [(I.mk (some 38) none false (X.v (A.mov (O.t 7)))), (I.mk (some 6) none false (X.v (A.mov (O.t 38))))] []) AC.ret)
def A113_10 : AC := (AC.block 0 (AC.loop A113_1))
def A113_9 : AC := (AC.seq (AC.seq (AC.reg [] [(I.mk (some 10) none false (X.v (A.mov (O.t 2)))), (I.mk (some 11) none false (X.call (O.k (V.fn 121 [] [])) [(O.t 10)])), (I.mk (some 12) none false (X.v (A.len (O.t 11)))), (I.mk (some 13) none false (X.v (A.mov (O.k (V.int IntKind.i64 (Int.ofNat 0))))))] []) A113_10) A113_7)
def A113_8 : AC := (AC.seq (AC.reg [] [(I.mk (some 7) none false (X.v (A.mov (O.k (V.int IntKind.i64 (Int.negSucc 0))))))] []) A113_9)
def A113 : AC := (AC.seq (AC.reg [.clr [3]] [(I.mk (some 3) none false (X.box (O.t 0))), (I.mk (some 6) none false (X.v (A.mov (O.k (V.int IntKind.i64 (Int.ofNat 0))))))] []) A113_8)
def an113 : List An := [{ id := 0, pre := [.clr [3]], ep := [], lin := [], sp := [] }]
theorem c113 : cC Try.prog Try.f113.ntmps an113 (Try.f113.body.getD .skip) = some A113 := by kernel_rfl
structure H113 (D : Den) (σ : Sig) (F : Nat) : Prop where
  c121 : ∀ x0 r, i_setOf F x0 = some r → D 121 [Enc.enc x0] = some (Enc.enc (r : (List Int)))
  g121 : σ 121 = some (0, true)
abbrev R113 (r : Int) : (Nat → V) → Prop := RR Try.prog [.tmp 6] 0 false (Enc.enc (r : Int))
section
variable {D : Den} {σ : Sig} {F : Nat} {r : Int}
def i_net_bestRoot_j1 (F : Nat) (depths_2 : (List Int)) (set_3 : Int) (r_4 : (List Int)) (t13_17 : Int) (c1 : Int → Int → Option Int) (best_35 : Int) : Option Int :=
  c1 best_35 (w64 (t13_17 + 1))
theorem t_f113_j1 (H : H113 D σ F) (depths_2 : (List Int)) (set_3 : Int) (r_4 : (List Int)) (t13_17 : Int) (c1 : Int → Int → Option Int) (Hc1 : ∀ (best_16 : Int) (t13_17 : Int) (s : Nat → V), Facts [(1, (Enc.enc (depths_2 : List Int))), (2, (.int .i64 set_3)), (6, (.int .i64 0)), (7, (.int .i64 best_16)), (11, (Enc.enc (r_4 : List Int))), (12, (.int .i64 (r_4.length : Int))), (13, (.int .i64 t13_17))] s → c1 best_16 t13_17 = some r → Run D σ (R113 r) (.run A113_1 [.lp A113_1, .bk 0, .sq A113_7]) s) (best_35 : Int) (s : Nat → V) (hs : Facts [(1, (Enc.enc (depths_2 : List Int))), (2, (.int .i64 set_3)), (6, (.int .i64 0)), (7, (.int .i64 best_35)), (11, (Enc.enc (r_4 : List Int))), (12, (.int .i64 (r_4.length : Int))), (13, (.int .i64 t13_17))] s) (h : i_net_bestRoot_j1 F depths_2 set_3 r_4 t13_17 c1 best_35 = some r) : Run D σ (R113 r) (.nrm [.bk 1, .sq A113_6, .lp A113_1, .bk 0, .sq A113_7]) s := by
  unfold i_net_bestRoot_j1 at h
  obtain ⟨h1, h2, h6, h7, h11, h12, h13⟩ := hs
  refine .nbk ?_
  refine .nsq ?_
  refine run_reg ?_
  refine e_end ?_
  refine g_v1 (t := 13) (u := (.int .i64 t13_17)) (.int .i64 (w64 (t13_17 + 1))) h13 rfl rfl ?_
  refine g_v1 (t := 37) (u := (.int .i64 (w64 (t13_17 + 1)))) (.int .i64 (w64 (t13_17 + 1))) rfl rfl rfl ?_
  refine g_end ?_
  refine e_end ?_
  refine renew [(1, (Enc.enc (depths_2 : List Int))), (2, (.int .i64 set_3)), (6, (.int .i64 0)), (7, (.int .i64 best_35)), (11, (Enc.enc (r_4 : List Int))), (12, (.int .i64 (r_4.length : Int))), (13, (.int .i64 (w64 (t13_17 + 1))))] ⟨h1, h2, h6, h7, h11, h12, rfl⟩ ?_
  rintro s ⟨h1, h2, h6, h7, h11, h12, h13⟩
  refine .nlp ?_
  exact Hc1 best_35 (w64 (t13_17 + 1)) _ ⟨h1, h2, h6, h7, h11, h12, h13⟩ h
def i_net_bestRoot_j2 (F : Nat) (depths_2 : (List Int)) (set_3 : Int) (best_16 : Int) (e_29 : Int) (r_4 : (List Int)) (t13_17 : Int) (c1 : Int → Int → Option Int) (t35_34 : Bool) : Option Int :=
  bif t35_34 then
    i_net_bestRoot_j1 F depths_2 set_3 r_4 t13_17 c1 e_29
  else
    i_net_bestRoot_j1 F depths_2 set_3 r_4 t13_17 c1 best_16
theorem t_f113_j2 (H : H113 D σ F) (depths_2 : (List Int)) (set_3 : Int) (best_16 : Int) (e_29 : Int) (r_4 : (List Int)) (t13_17 : Int) (c1 : Int → Int → Option Int) (Hc1 : ∀ (best_16 : Int) (t13_17 : Int) (s : Nat → V), Facts [(1, (Enc.enc (depths_2 : List Int))), (2, (.int .i64 set_3)), (6, (.int .i64 0)), (7, (.int .i64 best_16)), (11, (Enc.enc (r_4 : List Int))), (12, (.int .i64 (r_4.length : Int))), (13, (.int .i64 t13_17))] s → c1 best_16 t13_17 = some r → Run D σ (R113 r) (.run A113_1 [.lp A113_1, .bk 0, .sq A113_7]) s) (t35_34 : Bool) (s : Nat → V) (hs : Facts [(1, (Enc.enc (depths_2 : List Int))), (2, (.int .i64 set_3)), (6, (.int .i64 0)), (7, (.int .i64 best_16)), (9, (.int .i64 e_29)), (11, (Enc.enc (r_4 : List Int))), (12, (.int .i64 (r_4.length : Int))), (13, (.int .i64 t13_17)), (35, (.bool t35_34))] s) (h : i_net_bestRoot_j2 F depths_2 set_3 best_16 e_29 r_4 t13_17 c1 t35_34 = some r) : Run D σ (R113 r) (.nrm [.sq A113_5, .bk 1, .sq A113_6, .lp A113_1, .bk 0, .sq A113_7]) s := by
  unfold i_net_bestRoot_j2 at h
  obtain ⟨h1, h2, h6, h7, h9, h11, h12, h13, h35⟩ := hs
  refine .nsq ?_
  refine run_cond (t := t35_34) h35 h (fun h => ?_) (fun h => ?_)
  · refine run_reg ?_
    refine e_end ?_
    refine g_v1 (t := 9) (u := (.int .i64 e_29)) (.int .i64 e_29) h9 rfl rfl ?_
    refine g_v1 (t := 36) (u := (.int .i64 e_29)) (.int .i64 e_29) rfl rfl rfl ?_
    refine g_end ?_
    refine e_end ?_
    refine renew [(1, (Enc.enc (depths_2 : List Int))), (2, (.int .i64 set_3)), (6, (.int .i64 0)), (7, (.int .i64 e_29)), (11, (Enc.enc (r_4 : List Int))), (12, (.int .i64 (r_4.length : Int))), (13, (.int .i64 t13_17))] ⟨h1, h2, h6, rfl, h11, h12, h13⟩ ?_
    rintro s ⟨h1, h2, h6, h7, h11, h12, h13⟩
    exact t_f113_j1 H depths_2 set_3 r_4 t13_17 c1 Hc1 e_29 _ ⟨h1, h2, h6, h7, h11, h12, h13⟩ h
  · refine .skip ?_
    exact t_f113_j1 H depths_2 set_3 r_4 t13_17 c1 Hc1 best_16 _ ⟨h1, h2, h6, h7, h11, h12, h13⟩ h
def i_net_bestRoot_l1 (F : Nat) (depths_2 : (List Int)) (set_3 : Int) (r_4 : (List Int))  : Nat → Int → Int → Option Int
  | 0, _, _ => none
  | k + 1, best_16, t13_17 =>
    bif decide (t13_17 < (r_4.length : Int)) then
      (idx r_4 t13_17).bind fun e_29 =>
      bif decide (best_16 < 0) then
        i_net_bestRoot_j2 F depths_2 set_3 best_16 e_29 r_4 t13_17 (i_net_bestRoot_l1 F depths_2 set_3 r_4 k) true
      else
        (shlI .i64 1 e_29).bind fun q_36 =>
        (idx depths_2 (iandNot .i64 set_3 q_36)).bind fun e_37 =>
        (shlI .i64 1 best_16).bind fun q_38 =>
        (idx depths_2 (iandNot .i64 set_3 q_38)).bind fun e_39 =>
        i_net_bestRoot_j2 F depths_2 set_3 best_16 e_29 r_4 t13_17 (i_net_bestRoot_l1 F depths_2 set_3 r_4 k) (decide (e_37 < e_39))
    else
      some best_16
theorem t_f113_l1 (H : H113 D σ F) (depths_2 : (List Int)) (set_3 : Int) (r_4 : (List Int))  : ∀ (k : Nat) (best_16 : Int) (t13_17 : Int) (s : Nat → V), Facts [(1, (Enc.enc (depths_2 : List Int))), (2, (.int .i64 set_3)), (6, (.int .i64 0)), (7, (.int .i64 best_16)), (11, (Enc.enc (r_4 : List Int))), (12, (.int .i64 (r_4.length : Int))), (13, (.int .i64 t13_17))] s → i_net_bestRoot_l1 F depths_2 set_3 r_4 k best_16 t13_17 = some r → Run D σ (R113 r) (.run A113_1 [.lp A113_1, .bk 0, .sq A113_7]) s := by
  intro k
  induction k with
  | zero => intro best_16 t13_17 s _ h; exact nomatch (h : (none : Option _) = some r)
  | succ k ih =>
    intro best_16 t13_17 s hs h
    rw [i_net_bestRoot_l1] at h
    obtain ⟨h1, h2, h6, h7, h11, h12, h13⟩ := hs
    refine .seq ?_
    refine run_reg ?_
    refine e_end ?_
    refine g_v2 (t1 := 13) (t2 := 12) (u1 := (.int .i64 t13_17)) (u2 := (.int .i64 (r_4.length : Int))) (.bool (decide (t13_17 < (r_4.length : Int)))) h13 h12 rfl rfl ?_
    refine g_end ?_
    refine e_end ?_
    refine renew [(1, (Enc.enc (depths_2 : List Int))), (2, (.int .i64 set_3)), (6, (.int .i64 0)), (7, (.int .i64 best_16)), (11, (Enc.enc (r_4 : List Int))), (12, (.int .i64 (r_4.length : Int))), (13, (.int .i64 t13_17)), (14, (.bool (decide (t13_17 < (r_4.length : Int)))))] ⟨h1, h2, h6, h7, h11, h12, h13, rfl⟩ ?_
    rintro s ⟨h1, h2, h6, h7, h11, h12, h13, h14⟩
    refine .nsq ?_
    refine .seq ?_
    refine run_cond (t := decide (t13_17 < (r_4.length : Int))) h14 h (fun h => ?_) (fun h => ?_)
    · refine .skip ?_
      refine .nsq ?_
      refine .seq ?_
      refine .block ?_
      refine .seq ?_
      refine run_reg ?_
      refine e_end ?_
      obtain ⟨e_29, E_e_29, h⟩ := bind_some h
      refine g_v (.ref .sh 0 [] (.int .i64 e_29)) (ev_idx (t := .sh) (lo := 0) (xs := r_4) h11 h13 E_e_29 rfl rfl) ?_
      refine g_v1 (t := 15) (u := (.ref .sh 0 [] (.int .i64 e_29))) (.int .i64 e_29) rfl rfl rfl ?_
      refine g_v1 (t := 16) (u := (.int .i64 e_29)) (.int .i64 e_29) rfl rfl rfl ?_
      refine g_end ?_
      refine e_end ?_
      refine renew [(1, (Enc.enc (depths_2 : List Int))), (2, (.int .i64 set_3)), (6, (.int .i64 0)), (7, (.int .i64 best_16)), (9, (.int .i64 e_29)), (11, (Enc.enc (r_4 : List Int))), (12, (.int .i64 (r_4.length : Int))), (13, (.int .i64 t13_17))] ⟨h1, h2, h6, h7, rfl, h11, h12, h13⟩ ?_
      rintro s ⟨h1, h2, h6, h7, h9, h11, h12, h13⟩
      refine .nsq ?_
      refine .seq ?_
      refine run_reg ?_
      refine e_end ?_
      refine g_v1 (t := 7) (u := (.int .i64 best_16)) (.int .i64 best_16) h7 rfl rfl ?_
      refine g_v1 (t := 17) (u := (.int .i64 best_16)) (.bool (decide (best_16 < 0))) rfl rfl rfl ?_
      refine g_v1 (t := 18) (u := (.bool (decide (best_16 < 0)))) (.bool (decide (best_16 < 0))) rfl rfl rfl ?_
      refine split_on (c := decide (best_16 < 0)) h (fun hg3 h => ?_) (fun hg3 h => ?_)
      · refine g_no (Eq.trans (b := .bool (decide (best_16 < 0))) rfl (congrArg V.bool hg3)) ?_
        refine g_no (Eq.trans (b := .bool (decide (best_16 < 0))) rfl (congrArg V.bool hg3)) ?_
        refine g_no (Eq.trans (b := .bool (decide (best_16 < 0))) rfl (congrArg V.bool hg3)) ?_
        refine g_no (Eq.trans (b := .bool (decide (best_16 < 0))) rfl (congrArg V.bool hg3)) ?_
        refine g_no (Eq.trans (b := .bool (decide (best_16 < 0))) rfl (congrArg V.bool hg3)) ?_
        refine g_no (Eq.trans (b := .bool (decide (best_16 < 0))) rfl (congrArg V.bool hg3)) ?_
        refine g_no (Eq.trans (b := .bool (decide (best_16 < 0))) rfl (congrArg V.bool hg3)) ?_
        refine g_no (Eq.trans (b := .bool (decide (best_16 < 0))) rfl (congrArg V.bool hg3)) ?_
        refine g_no (Eq.trans (b := .bool (decide (best_16 < 0))) rfl (congrArg V.bool hg3)) ?_
        refine g_no (Eq.trans (b := .bool (decide (best_16 < 0))) rfl (congrArg V.bool hg3)) ?_
        refine g_no (Eq.trans (b := .bool (decide (best_16 < 0))) rfl (congrArg V.bool hg3)) ?_
        refine g_no (Eq.trans (b := .bool (decide (best_16 < 0))) rfl (congrArg V.bool hg3)) ?_
        refine g_no (Eq.trans (b := .bool (decide (best_16 < 0))) rfl (congrArg V.bool hg3)) ?_
        refine g_no (Eq.trans (b := .bool (decide (best_16 < 0))) rfl (congrArg V.bool hg3)) ?_
        refine g_no (Eq.trans (b := .bool (decide (best_16 < 0))) rfl (congrArg V.bool hg3)) ?_
        refine g_v2 (t1 := 19) (t2 := 34) (u1 := (.bool true)) (u2 := (.tup [])) (.bool true) (Eq.trans (b := .bool (decide (best_16 < 0))) rfl (congrArg V.bool hg3)) rfl rfl rfl ?_
        refine g_end ?_
        refine e_end ?_
        refine renew [(1, (Enc.enc (depths_2 : List Int))), (2, (.int .i64 set_3)), (6, (.int .i64 0)), (7, (.int .i64 best_16)), (9, (.int .i64 e_29)), (11, (Enc.enc (r_4 : List Int))), (12, (.int .i64 (r_4.length : Int))), (13, (.int .i64 t13_17)), (35, (.bool true))] ⟨h1, h2, h6, h7, h9, h11, h12, h13, rfl⟩ ?_
        rintro s ⟨h1, h2, h6, h7, h9, h11, h12, h13, h35⟩
        exact t_f113_j2 H depths_2 set_3 best_16 e_29 r_4 t13_17 (i_net_bestRoot_l1 F depths_2 set_3 r_4 k) ih true _ ⟨h1, h2, h6, h7, h9, h11, h12, h13, h35⟩ h
      · refine g_yes (Eq.trans (b := .bool (decide (best_16 < 0))) rfl (congrArg V.bool hg3)) (g_v1 (t := 1) (u := (Enc.enc (depths_2 : List Int))) (Enc.enc (depths_2 : List Int)) h1 rfl rfl ?_)
        refine g_yes (Eq.trans (b := .bool (decide (best_16 < 0))) rfl (congrArg V.bool hg3)) (g_v1 (t := 2) (u := (.int .i64 set_3)) (.int .i64 set_3) h2 rfl rfl ?_)
        refine g_yes (Eq.trans (b := .bool (decide (best_16 < 0))) rfl (congrArg V.bool hg3)) (g_v1 (t := 9) (u := (.int .i64 e_29)) (.int .i64 e_29) h9 rfl rfl ?_)
        obtain ⟨q_36, E_q_36, h⟩ := bind_some h
        refine g_yes (Eq.trans (b := .bool (decide (best_16 < 0))) rfl (congrArg V.bool hg3)) (g_v (.int .i64 q_36) (ev_shl rfl rfl E_q_36) ?_)
        refine g_yes (Eq.trans (b := .bool (decide (best_16 < 0))) rfl (congrArg V.bool hg3)) (g_v2 (t1 := 21) (t2 := 23) (u1 := (.int .i64 set_3)) (u2 := (.int .i64 q_36)) (.int .i64 (iandNot .i64 set_3 q_36)) rfl rfl rfl rfl ?_)
        obtain ⟨e_37, E_e_37, h⟩ := bind_some h
        refine g_yes (Eq.trans (b := .bool (decide (best_16 < 0))) rfl (congrArg V.bool hg3)) (g_v (.ref .sh 0 [] (.int .i64 e_37)) (ev_idx (t := .sh) (lo := 0) (xs := depths_2) rfl rfl E_e_37 rfl rfl) ?_)
        refine g_yes (Eq.trans (b := .bool (decide (best_16 < 0))) rfl (congrArg V.bool hg3)) (g_v1 (t := 25) (u := (.ref .sh 0 [] (.int .i64 e_37))) (.int .i64 e_37) rfl rfl rfl ?_)
        refine g_yes (Eq.trans (b := .bool (decide (best_16 < 0))) rfl (congrArg V.bool hg3)) (g_v1 (t := 1) (u := (Enc.enc (depths_2 : List Int))) (Enc.enc (depths_2 : List Int)) h1 rfl rfl ?_)
        refine g_yes (Eq.trans (b := .bool (decide (best_16 < 0))) rfl (congrArg V.bool hg3)) (g_v1 (t := 2) (u := (.int .i64 set_3)) (.int .i64 set_3) h2 rfl rfl ?_)
        refine g_yes (Eq.trans (b := .bool (decide (best_16 < 0))) rfl (congrArg V.bool hg3)) (g_v1 (t := 7) (u := (.int .i64 best_16)) (.int .i64 best_16) h7 rfl rfl ?_)
        obtain ⟨q_38, E_q_38, h⟩ := bind_some h
        refine g_yes (Eq.trans (b := .bool (decide (best_16 < 0))) rfl (congrArg V.bool hg3)) (g_v (.int .i64 q_38) (ev_shl rfl rfl E_q_38) ?_)
        refine g_yes (Eq.trans (b := .bool (decide (best_16 < 0))) rfl (congrArg V.bool hg3)) (g_v2 (t1 := 28) (t2 := 30) (u1 := (.int .i64 set_3)) (u2 := (.int .i64 q_38)) (.int .i64 (iandNot .i64 set_3 q_38)) rfl rfl rfl rfl ?_)
        obtain ⟨e_39, E_e_39, h⟩ := bind_some h
        refine g_yes (Eq.trans (b := .bool (decide (best_16 < 0))) rfl (congrArg V.bool hg3)) (g_v (.ref .sh 0 [] (.int .i64 e_39)) (ev_idx (t := .sh) (lo := 0) (xs := depths_2) rfl rfl E_e_39 rfl rfl) ?_)
        refine g_yes (Eq.trans (b := .bool (decide (best_16 < 0))) rfl (congrArg V.bool hg3)) (g_v1 (t := 32) (u := (.ref .sh 0 [] (.int .i64 e_39))) (.int .i64 e_39) rfl rfl rfl ?_)
        refine g_yes (Eq.trans (b := .bool (decide (best_16 < 0))) rfl (congrArg V.bool hg3)) (g_v2 (t1 := 26) (t2 := 33) (u1 := (.int .i64 e_37)) (u2 := (.int .i64 e_39)) (.bool (decide (e_37 < e_39))) rfl rfl rfl rfl ?_)
        refine g_v2 (t1 := 19) (t2 := 34) (u1 := (.bool false)) (u2 := (.bool (decide (e_37 < e_39)))) (.bool (decide (e_37 < e_39))) (Eq.trans (b := .bool (decide (best_16 < 0))) rfl (congrArg V.bool hg3)) rfl rfl rfl ?_
        refine g_end ?_
        refine e_end ?_
        refine renew [(1, (Enc.enc (depths_2 : List Int))), (2, (.int .i64 set_3)), (6, (.int .i64 0)), (7, (.int .i64 best_16)), (9, (.int .i64 e_29)), (11, (Enc.enc (r_4 : List Int))), (12, (.int .i64 (r_4.length : Int))), (13, (.int .i64 t13_17)), (35, (.bool (decide (e_37 < e_39))))] ⟨h1, h2, h6, h7, h9, h11, h12, h13, rfl⟩ ?_
        rintro s ⟨h1, h2, h6, h7, h9, h11, h12, h13, h35⟩
        exact t_f113_j2 H depths_2 set_3 best_16 e_29 r_4 t13_17 (i_net_bestRoot_l1 F depths_2 set_3 r_4 k) ih (decide (e_37 < e_39)) _ ⟨h1, h2, h6, h7, h9, h11, h12, h13, h35⟩ h
    · refine .exit ?_
      refine .esq ?_
      refine .elp ?_
      refine .ebk ?_
      refine .nsq ?_
      refine .seq ?_
      refine run_reg ?_
      refine e_end ?_
      refine g_v1 (t := 7) (u := (.int .i64 best_16)) (.int .i64 best_16) h7 rfl rfl ?_
      refine g_v1 (t := 38) (u := (.int .i64 best_16)) (.int .i64 best_16) rfl rfl rfl ?_
      refine g_end ?_
      refine e_end ?_
      refine renew [(6, (.int .i64 best_16))] rfl ?_
      rintro s h6
      refine .nsq ?_
      refine .ret ?_
      have hr := Option.some.inj h
      subst hr
      exact rrA (res_tmp h6) rfl
def i_net_bestRoot (F : Nat) (w_1 : (S1 (List Int))) (depths_2 : (List Int)) (set_3 : Int) : Option Int :=
  (i_setOf F set_3).bind fun r_4 =>
  i_net_bestRoot_l1 F depths_2 set_3 r_4 F (-1) 0
theorem t113 (H : H113 D σ F) (w_1 : (S1 (List Int))) (depths_2 : (List Int)) (set_3 : Int) (s : Nat → V) (hs : Facts [(0, (.agg [(Enc.enc (w_1.a : List Int))])), (1, (Enc.enc (depths_2 : List Int))), (2, (.int .i64 set_3))] s) (h : i_net_bestRoot F w_1 depths_2 set_3 = some r) : Run D σ (R113 r) (.run A113 []) s := by
  unfold i_net_bestRoot at h
  obtain ⟨h0, h1, h2⟩ := hs
  refine .seq ?_
  refine run_reg ?_
  refine e_clr ?_
  refine e_end ?_
  refine g_box (.agg [(Enc.enc (w_1.a : List Int))]) (rd_of (keep_clear (s := s) (pk := [3]) h0 rfl (map_agg (maps_cons (Enc.map_enc _ (w_1.a : List Int)) maps_nil))) rfl) (gone_clear (s := s) (pk := [3]) (t := 3) rfl) rfl ?_
  refine g_v0 (.int .i64 0) rfl rfl ?_
  refine g_end ?_
  refine e_end ?_
  refine renew [(1, (Enc.enc (depths_2 : List Int))), (2, (.int .i64 set_3)), (6, (.int .i64 0))] ⟨(keep_clear (s := s) (pk := [3]) h1 rfl (Enc.map_enc _ (depths_2 : List Int))), (keep_clear (s := s) (pk := [3]) h2 rfl rfl), rfl⟩ ?_
  rintro s ⟨h1, h2, h6⟩
  refine .nsq ?_
  refine .seq ?_
  refine run_reg ?_
  refine e_end ?_
  refine g_v0 (.int .i64 (-1)) rfl rfl ?_
  refine g_end ?_
  refine e_end ?_
  refine renew [(1, (Enc.enc (depths_2 : List Int))), (2, (.int .i64 set_3)), (6, (.int .i64 0)), (7, (.int .i64 (-1)))] ⟨h1, h2, h6, rfl⟩ ?_
  rintro s ⟨h1, h2, h6, h7⟩
  refine .nsq ?_
  refine .seq ?_
  refine .seq ?_
  refine run_reg ?_
  refine e_end ?_
  refine g_v1 (t := 2) (u := (.int .i64 set_3)) (.int .i64 set_3) h2 rfl rfl ?_
  obtain ⟨r_4, E_r_4, h⟩ := bind_some h
  refine g_call (m := 0) (al := true) (r := (Enc.enc (r_4 : (List Int)))) [Enc.enc (set_3 : Int)] (ta_cons (v := (.int .i64 set_3)) rfl rfl rfl ta_nil) (H.c121 _ _ E_r_4) H.g121 (hal_of (ht_cons (v := (.int .i64 set_3)) rfl rfl rfl ht_nil)) rfl rfl rfl ?_
  refine g_v (.int .i64 (r_4.length : Int)) (ev_len (xs := r_4) rfl) ?_
  refine g_v0 (.int .i64 0) rfl rfl ?_
  refine g_end ?_
  refine e_end ?_
  refine renew [(1, (Enc.enc (depths_2 : List Int))), (2, (.int .i64 set_3)), (6, (.int .i64 0)), (7, (.int .i64 (-1))), (11, (Enc.enc (r_4 : List Int))), (12, (.int .i64 (r_4.length : Int))), (13, (.int .i64 0))] ⟨h1, h2, h6, h7, rfl, rfl, rfl⟩ ?_
  rintro s ⟨h1, h2, h6, h7, h11, h12, h13⟩
  refine .nsq ?_
  refine .block ?_
  refine .loop ?_
  exact t_f113_l1 H depths_2 set_3 r_4 F (-1) 0 _ ⟨h1, h2, h6, h7, h11, h12, h13⟩ h
end
def e113 (F : Nat) : Ent := ⟨113, dn3 (i_net_bestRoot F) (fun (r : Int) => (Enc.enc (r : Int))), 0, false⟩
theorem o113 {D : Den} {σ : Sig} {F : Nat} (hF : Fits2 Try.prog D σ) (H : H113 D σ F) : (e113 F).Ok Try.prog := by
  refine ⟨fun args r h => ?_, ⟨Try.f113, Try.func113, rfl, rfl⟩⟩
  obtain ⟨x0, x1, x2, y, rfl, hy, rfl⟩ := dn3_open h
  exact contract_run hF (by kernel_rfl) Try.func113 rfl c113 (show 3 ≤ Try.f113.ntmps by decide) (t113 H x0 x1 x2 _ ⟨rfl, rfl, rfl⟩ hy)
/- (loop.example/g01109/impl.net).treedepths -/
def A67_2 : AC := (AC.cond (O.t 15) AC.skip (AC.exit 0))
def A67_10 : AC := (AC.reg [] [(I.mk (some 30) none false (X.v (A.mov (O.t 3)))), (I.mk (some 31) none false (X.v (A.mov (O.t 4)))), (I.mk (some 32) none false (X.v (A.mov (O.t 3)))), (I.mk (some 33) none false (X.v (A.mov (O.t 4)))), (I.mk (some 34) none false (X.v (A.idx (O.t 32) (O.t 33) 1))), (I.mk (some 35) none false (X.v (A.load Sh.s (O.t 34)))), (I.mk (some 36) none false (X.v (A.mov (O.t 3)))), (I.mk (some 37) none false (X.v (A.mov (O.t 7)))), (I.mk (some 38) none false (X.v (A.idx (O.t 36) (O.t 37) 1))), (I.mk (some 39) none false (X.v (A.load Sh.s (O.t 38)))), (I.mk (some 40) none false (X.v (A.mx [(O.t 35), (O.t 39)]))), (I.mk (some 41) none false (X.v (A.idx (O.t 30) (O.t 31) 1))), (I.mk none none false (X.store Sh.s (O.t 41) (O.t 40)))] [])
def A67_11 : AC := (AC.reg [] [(I.mk (some 42) none false (X.v (A.bin BinOp.add (O.t 26) (O.k (V.int IntKind.i64 (Int.ofNat 1)))))), (I.mk (some 26) none false (X.v (A.mov (O.t 42))))] [])
def A67_9 : AC := (AC.seq (AC.block 3 (AC.seq (AC.reg [] [(I.mk (some 28) none false (X.v (A.idx (O.t 24) (O.t 26) 1))), (I.mk (some 29) none false (X.v (A.load Sh.s (O.t 28)))), (I.mk (some 7) none false (X.v (A.mov (O.t 29))))] []) A67_10)) A67_11)
def A67_8 : AC := (AC.seq (AC.cond (O.t 27) AC.skip (AC.exit 2)) A67_9)
def A67_7 : AC := (AC.seq (AC.reg [] [(I.mk (some 27) none false (X.v (A.bin BinOp.lss (O.t 26) (O.t 25))))] []) A67_8)
def A67_6 : AC := (AC.block 2 (AC.loop A67_7))
def A67_5 : AC := (AC.cond (O.t 23) (AC.seq (AC.seq (AC.reg [] [(I.mk (some 24) none false (X.v (A.mov (O.t 5)))), (I.mk (some 25) none false (X.v (A.len (O.t 24)))), (I.mk (some 26) none false (X.v (A.mov (O.k (V.int IntKind.i64 (Int.ofNat 0))))))] []) A67_6) (AC.exit 1)) AC.skip)
def A67_12 : AC := (AC.reg [] [(I.mk (some 43) none false (X.v (A.mov (O.t 3)))), (I.mk (some 44) none false (X.v (A.mov (O.t 4)))), (I.mk (some 45) none false (X.v (A.mov (O.t 3)))), (I.mk (some 46) none false (X.v (A.mov (O.t 4)))), (I.mk (some 47) none false (X.v (A.load (Sh.ag [Sh.p]) (O.t 1)))), (I.mk (some 48) none false (X.v (A.mov (O.t 3)))), (I.mk (some 49) none false (X.v (A.mov (O.t 4)))), (I.mk (some 50) none false (X.call (O.k (V.fn 113 [] [])) [(O.t 47), (O.t 48), (O.t 49)])), (I.mk (some 51) none false (X.v (A.bin BinOp.shl (O.k (V.int IntKind.i64 (Int.ofNat 1))) (O.t 50)))), (I.mk (some 52) none false (X.v (A.bin BinOp.andNot (O.t 46) (O.t 51)))), (I.mk (some 53) none false (X.v (A.idx (O.t 45) (O.t 52) 1))), (I.mk (some 54) none false (X.v (A.load Sh.s (O.t 53)))), (I.mk (some 55) none false (X.v (A.bin BinOp.add (O.t 54) (O.k (V.int IntKind.i64 (Int.ofNat 1)))))), (I.mk (some 56) none false (X.v (A.idx (O.t 43) (O.t 44) 1))), (I.mk none none false (X.store Sh.s (O.t 56) (O.t 55)))] [])
def A67_4 : AC := (AC.seq (AC.seq (AC.reg [] [(I.mk (some 21) none false (X.v (A.mov (O.t 5)))), (I.mk (some 22) none false (X.v (A.len (O.t 21)))), (I.mk (some 23) none false (X.v (A.bin BinOp.gtr (O.t 22) (O.k (V.int IntKind.i64 (Int.ofNat 1))))))] []) A67_5) A67_12)
def A67_13 : AC := (AC.reg [] [(I.mk (some 16) none false (X.v (A.mov (O.t 4)))), (I.mk (some 17) none false (X.v (A.bin BinOp.add (O.t 16) (O.k (V.int IntKind.i64 (Int.ofNat 1)))))), (I.mk (some 4) none false (X.v (A.mov (O.t 17))))] [])
def A67_3 : AC := (AC.seq (AC.block 1 (AC.seq (AC.reg [] [(I.mk (some 18) none false (X.v (A.load (Sh.ag [Sh.p]) (O.t 1)))), (I.mk (some 19) none false (X.v (A.mov (O.t 4)))), (I.mk (some 20) none false (X.call (O.k (V.fn 76 [] [])) [(O.t 18), (O.t 19)])), (I.mk (some 5) none false (X.v (A.mov (O.t 20))))] []) A67_4)) A67_13)
def A67_1 : AC := (AC.seq (AC.seq (AC.reg [] [(I.mk (some 12) none false (X.v (A.mov (O.t 4)))), (I.mk (some 13) none false (X.v (A.mov (O.t 3)))), (I.mk (some 14) none false (X.v (A.len (O.t 13)))), (I.mk (some 15) none false (X.v (A.bin BinOp.lss (O.t 12) (O.t 14))))] []) A67_2) A67_3)
def A67_14 : AC := (AC.seq (AC.reg [] [(I.mk (some 57) none false (X.v (A.mov (O.t 3)))), (I.mk (some 2) none false (X.v (A.mov (O.t 57))))] [.home 3 2]) AC.ret)
def A67_17 : AC := (AC.block 0 (AC.loop A67_1))
def A67_16 : AC := (AC.seq (AC.seq (AC.reg [] [(I.mk (some 4) none false (X.v (A.mov (O.k (V.int IntKind.i64 (Int.ofNat 1))))))] []) A67_17) A67_14)
def A67_15 : AC := (AC.seq (AC.reg [.clr [11]] [(I.mk (some 8) none false (X.v (A.load (Sh.ag [Sh.p]) (O.t 1)))), (I.mk (some 9) none false (X.call (O.k (V.fn 68 [] [])) [(O.t 8)])), (I.mk (some 10) none false (X.v (A.bin BinOp.add (O.t 9) (O.k (V.int IntKind.i64 (Int.ofNat 1)))))), (I.mk (some 11) none false (X.mk (O.t 10) (V.int IntKind.i64 (Int.ofNat 0)))), (I.mk (some 3) none false (X.v (A.mov (O.t 11))))] [.home 11 3]) A67_16)
def A67 : AC := (AC.seq (AC.reg [.clr [1]] [(I.mk (some 1) none false (X.box (O.t 0))), (I.mk (some 2) none false (X.v (A.mov (O.k (V.sl Tok.nl Sh.s 0 [])))))] []) A67_15)
def an67 : List An := [{ id := 0, pre := [.clr [1]], ep := [], lin := [], sp := [] }, { id := 1, pre := [.clr [11]], ep := [.home 11 3], lin := [], sp := [] }, { id := 13, pre := [], ep := [.home 3 2], lin := [], sp := [] }]
theorem c67 : cC Try.prog Try.f67.ntmps an67 (Try.f67.body.getD .skip) = some A67 := by kernel_rfl
structure H67 (D : Den) (σ : Sig) (F : Nat) : Prop where
  c68 : ∀ x0 r, i_net_all F x0 = some r → D 68 [Enc.enc x0] = some (Enc.enc (r : Int))
  g68 : σ 68 = some (0, false)
  c76 : ∀ x0 x1 r, i_net_parts F x0 x1 = some r → D 76 [Enc.enc x0, Enc.enc x1] = some (Enc.enc (r : (List Int)))
  g76 : σ 76 = some (0, true)
  c113 : ∀ x0 x1 x2 r, i_net_bestRoot F x0 x1 x2 = some r → D 113 [Enc.enc x0, Enc.enc x1, Enc.enc x2] = some (Enc.enc (r : Int))
  g113 : σ 113 = some (0, false)
abbrev R67 (r : (List Int)) : (Nat → V) → Prop := RR Try.prog [.tmp 2] 0 true (Enc.enc (r : (List Int)))
section
variable {D : Den} {σ : Sig} {F : Nat} {r : (List Int)}
def i_net_treedepths_l1 (F : Nat) (w_1 : (S1 (List Int))) (set_38 : Int) (r_72 : (List Int)) (c1 : (List Int) → Int → Option (List Int)) : Nat → (List Int) → Int → Option (List Int)
  | 0, _, _ => none
  | k + 1, depths_91, t26_92 =>
    bif decide (t26_92 < (r_72.length : Int)) then
      (idx r_72 t26_92).bind fun e_97 =>
      (idx depths_91 set_38).bind fun e_98 =>
      (idx depths_91 e_97).bind fun e_99 =>
      (idx depths_91 set_38).bind fun e_100 =>
      (i_net_treedepths_l1 F w_1 set_38 r_72 c1 k) (depths_91.set set_38.toNat (if e_99 > e_98 then e_99 else e_98)) (w64 (t26_92 + 1))
    else
      c1 depths_91 (w64 (set_38 + 1))
theorem t_f67_l1 (H : H67 D σ F) (w_1 : (S1 (List Int))) (set_38 : Int) (r_72 : (List Int)) (c1 : (List Int) → Int → Option (List Int)) (Hc1 : ∀ (depths_37 : (List Int)) (set_38 : Int) (s : Nat → V), Facts [(1, (.ref (.bx 1) 0 [] (.agg [(Enc.enc (w_1.a : List Int))]))), (2, (.sl .nl (Enc.shp Int) 0 [])), (3, (encO (.at 3 []) (.of (depths_37 : List Int)))), (4, (.int .i64 set_38))] s → c1 depths_37 set_38 = some r → Run D σ (R67 r) (.run A67_1 [.lp A67_1, .bk 0, .sq A67_14]) s) : ∀ (k : Nat) (depths_91 : (List Int)) (t26_92 : Int) (s : Nat → V), Facts [(1, (.ref (.bx 1) 0 [] (.agg [(Enc.enc (w_1.a : List Int))]))), (2, (.sl .nl (Enc.shp Int) 0 [])), (3, (encO (.at 3 []) (.of (depths_91 : List Int)))), (4, (.int .i64 set_38)), (24, (Enc.enc (r_72 : List Int))), (25, (.int .i64 (r_72.length : Int))), (26, (.int .i64 t26_92))] s → i_net_treedepths_l1 F w_1 set_38 r_72 c1 k depths_91 t26_92 = some r → Run D σ (R67 r) (.run A67_7 [.lp A67_7, .bk 2, .sq (AC.exit 1), .sq A67_12, .bk 1, .sq A67_13, .lp A67_1, .bk 0, .sq A67_14]) s := by
  intro k
  induction k with
  | zero => intro depths_91 t26_92 s _ h; exact nomatch (h : (none : Option _) = some r)
  | succ k ih =>
    intro depths_91 t26_92 s hs h
    rw [i_net_treedepths_l1] at h
    obtain ⟨h1, h2, h3, h4, h24, h25, h26⟩ := hs
    refine .seq ?_
    refine run_reg ?_
    refine e_end ?_
    refine g_v2 (t1 := 26) (t2 := 25) (u1 := (.int .i64 t26_92)) (u2 := (.int .i64 (r_72.length : Int))) (.bool (decide (t26_92 < (r_72.length : Int)))) h26 h25 rfl rfl ?_
    refine g_end ?_
    refine e_end ?_
    refine renew [(1, (.ref (.bx 1) 0 [] (.agg [(Enc.enc (w_1.a : List Int))]))), (2, (.sl .nl (Enc.shp Int) 0 [])), (3, (encO (.at 3 []) (.of (depths_91 : List Int)))), (4, (.int .i64 set_38)), (24, (Enc.enc (r_72 : List Int))), (25, (.int .i64 (r_72.length : Int))), (26, (.int .i64 t26_92)), (27, (.bool (decide (t26_92 < (r_72.length : Int)))))] ⟨h1, h2, h3, h4, h24, h25, h26, rfl⟩ ?_
    rintro s ⟨h1, h2, h3, h4, h24, h25, h26, h27⟩
    refine .nsq ?_
    refine .seq ?_
    refine run_cond (t := decide (t26_92 < (r_72.length : Int))) h27 h (fun h => ?_) (fun h => ?_)
    · refine .skip ?_
      refine .nsq ?_
      refine .seq ?_
      refine .block ?_
      refine .seq ?_
      refine run_reg ?_
      refine e_end ?_
      obtain ⟨e_97, E_e_97, h⟩ := bind_some h
      refine g_v (.ref .sh 0 [] (.int .i64 e_97)) (ev_idx (t := .sh) (lo := 0) (xs := r_72) h24 h26 E_e_97 rfl rfl) ?_
      refine g_v1 (t := 28) (u := (.ref .sh 0 [] (.int .i64 e_97))) (.int .i64 e_97) rfl rfl rfl ?_
      refine g_v1 (t := 29) (u := (.int .i64 e_97)) (.int .i64 e_97) rfl rfl rfl ?_
      refine g_end ?_
      refine e_end ?_
      refine renew [(1, (.ref (.bx 1) 0 [] (.agg [(Enc.enc (w_1.a : List Int))]))), (2, (.sl .nl (Enc.shp Int) 0 [])), (3, (encO (.at 3 []) (.of (depths_91 : List Int)))), (4, (.int .i64 set_38)), (7, (.int .i64 e_97)), (24, (Enc.enc (r_72 : List Int))), (25, (.int .i64 (r_72.length : Int))), (26, (.int .i64 t26_92))] ⟨h1, h2, h3, h4, rfl, h24, h25, h26⟩ ?_
      rintro s ⟨h1, h2, h3, h4, h7, h24, h25, h26⟩
      refine .nsq ?_
      refine run_reg ?_
      refine e_end ?_
      refine g_v1 (t := 3) (u := (encO (.at 3 []) (.of (depths_91 : List Int)))) (encO (.at 3 []) (.of (depths_91 : List Int))) h3 rfl rfl ?_
      refine g_v1 (t := 4) (u := (.int .i64 set_38)) (.int .i64 set_38) h4 rfl rfl ?_
      refine g_v1 (t := 3) (u := (encO (.at 3 []) (.of (depths_91 : List Int)))) (encO (.at 3 []) (.of (depths_91 : List Int))) h3 rfl rfl ?_
      refine g_v1 (t := 4) (u := (.int .i64 set_38)) (.int .i64 set_38) h4 rfl rfl ?_
      obtain ⟨e_98, E_e_98, h⟩ := bind_some h
      refine g_v (.ref (.at 3 []) set_38.toNat [] (.int .i64 e_98)) (ev_idxO (o := (.of depths_91)) rfl rfl E_e_98 rfl) ?_
      refine g_v1 (t := 34) (u := (.ref (.at 3 []) set_38.toNat [] (.int .i64 e_98))) (.int .i64 e_98) rfl rfl rfl ?_
      refine g_v1 (t := 3) (u := (encO (.at 3 []) (.of (depths_91 : List Int)))) (encO (.at 3 []) (.of (depths_91 : List Int))) h3 rfl rfl ?_
      refine g_v1 (t := 7) (u := (.int .i64 e_97)) (.int .i64 e_97) h7 rfl rfl ?_
      obtain ⟨e_99, E_e_99, h⟩ := bind_some h
      refine g_v (.ref (.at 3 []) e_97.toNat [] (.int .i64 e_99)) (ev_idxO (o := (.of depths_91)) rfl rfl E_e_99 rfl) ?_
      refine g_v1 (t := 38) (u := (.ref (.at 3 []) e_97.toNat [] (.int .i64 e_99))) (.int .i64 e_99) rfl rfl rfl ?_
      refine g_v2 (t1 := 35) (t2 := 39) (u1 := (.int .i64 e_98)) (u2 := (.int .i64 e_99)) (.int .i64 (if e_99 > e_98 then e_99 else e_98)) rfl rfl rfl rfl ?_
      obtain ⟨e_100, E_e_100, h⟩ := bind_some h
      refine g_v (.ref (.at 3 []) set_38.toNat [] (.int .i64 e_100)) (ev_idxO (o := (.of depths_91)) rfl rfl E_e_100 rfl) ?_
      refine g_store (.int .i64 (if e_99 > e_98 then e_99 else e_98)) (rd_of rfl rfl) (rd_of rfl rfl) (by refine ⟨by decide, by decide, rfl, rfl, rfl, ?_⟩; first | rfl | simp [V.toks, V.tokss, Enc.toks_enc]) ?_
      refine g_end ?_
      refine e_end ?_
      refine renew [(1, (.ref (.bx 1) 0 [] (.agg [(Enc.enc (w_1.a : List Int))]))), (2, (.sl .nl (Enc.shp Int) 0 [])), (3, (encO (.at 3 []) (.of (depths_91.set set_38.toNat (if e_99 > e_98 then e_99 else e_98) : List Int)))), (4, (.int .i64 set_38)), (24, (Enc.enc (r_72 : List Int))), (25, (.int .i64 (r_72.length : Int))), (26, (.int .i64 t26_92))] ⟨(keep_mut h1 (mut_ref_ne rfl rfl (mut_agg (muts_cons (Enc.mut_enc _ _ _ _ (w_1.a : List Int)) rfl)))), (keep_mut h2 rfl), (keep_mut h3 mut_own), (keep_mut h4 rfl), (keep_mut h24 (Enc.mut_enc _ _ _ _ (r_72 : List Int))), (keep_mut h25 rfl), (keep_mut h26 rfl)⟩ ?_
      rintro s ⟨h1, h2, h3, h4, h24, h25, h26⟩
      refine .nbk ?_
      refine .nsq ?_
      refine run_reg ?_
      refine e_end ?_
      refine g_v1 (t := 26) (u := (.int .i64 t26_92)) (.int .i64 (w64 (t26_92 + 1))) h26 rfl rfl ?_
      refine g_v1 (t := 42) (u := (.int .i64 (w64 (t26_92 + 1)))) (.int .i64 (w64 (t26_92 + 1))) rfl rfl rfl ?_
      refine g_end ?_
      refine e_end ?_
      refine renew [(1, (.ref (.bx 1) 0 [] (.agg [(Enc.enc (w_1.a : List Int))]))), (2, (.sl .nl (Enc.shp Int) 0 [])), (3, (encO (.at 3 []) (.of (depths_91.set set_38.toNat (if e_99 > e_98 then e_99 else e_98) : List Int)))), (4, (.int .i64 set_38)), (24, (Enc.enc (r_72 : List Int))), (25, (.int .i64 (r_72.length : Int))), (26, (.int .i64 (w64 (t26_92 + 1))))] ⟨h1, h2, h3, h4, h24, h25, rfl⟩ ?_
      rintro s ⟨h1, h2, h3, h4, h24, h25, h26⟩
      refine .nlp ?_
      exact ih (depths_91.set set_38.toNat (if e_99 > e_98 then e_99 else e_98)) (w64 (t26_92 + 1)) _ ⟨h1, h2, h3, h4, h24, h25, h26⟩ h
    · refine .exit ?_
      refine .esq ?_
      refine .elp ?_
      refine .ebk ?_
      refine .nsq ?_
      refine .exit ?_
      refine .esq ?_
      refine .ebk ?_
      refine .nsq ?_
      refine run_reg ?_
      refine e_end ?_
      refine g_v1 (t := 4) (u := (.int .i64 set_38)) (.int .i64 set_38) h4 rfl rfl ?_
      refine g_v1 (t := 16) (u := (.int .i64 set_38)) (.int .i64 (w64 (set_38 + 1))) rfl rfl rfl ?_
      refine g_v1 (t := 17) (u := (.int .i64 (w64 (set_38 + 1)))) (.int .i64 (w64 (set_38 + 1))) rfl rfl rfl ?_
      refine g_end ?_
      refine e_end ?_
      refine renew [(1, (.ref (.bx 1) 0 [] (.agg [(Enc.enc (w_1.a : List Int))]))), (2, (.sl .nl (Enc.shp Int) 0 [])), (3, (encO (.at 3 []) (.of (depths_91 : List Int)))), (4, (.int .i64 (w64 (set_38 + 1))))] ⟨h1, h2, h3, rfl⟩ ?_
      rintro s ⟨h1, h2, h3, h4⟩
      refine .nlp ?_
      exact Hc1 depths_91 (w64 (set_38 + 1)) _ ⟨h1, h2, h3, h4⟩ h
def i_net_treedepths_l2 (F : Nat) (w_1 : (S1 (List Int)))  : Nat → (List Int) → Int → Option (List Int)
  | 0, _, _ => none
  | k + 1, depths_37, set_38 =>
    bif decide (set_38 < (depths_37.length : Int)) then
      (i_net_parts F w_1 set_38).bind fun r_72 =>
      bif decide ((r_72.length : Int) > 1) then
        i_net_treedepths_l1 F w_1 set_38 r_72 (i_net_treedepths_l2 F w_1 k) F depths_37 0
      else
        (i_net_bestRoot F w_1 depths_37 set_38).bind fun r_101 =>
        (shlI .i64 1 r_101).bind fun q_102 =>
        (idx depths_37 (iandNot .i64 set_38 q_102)).bind fun e_103 =>
        (idx depths_37 set_38).bind fun e_104 =>
        (i_net_treedepths_l2 F w_1 k) (depths_37.set set_38.toNat (w64 (e_103 + 1))) (w64 (set_38 + 1))
    else
      some depths_37
theorem t_f67_l2 (H : H67 D σ F) (w_1 : (S1 (List Int)))  : ∀ (k : Nat) (depths_37 : (List Int)) (set_38 : Int) (s : Nat → V), Facts [(1, (.ref (.bx 1) 0 [] (.agg [(Enc.enc (w_1.a : List Int))]))), (2, (.sl .nl (Enc.shp Int) 0 [])), (3, (encO (.at 3 []) (.of (depths_37 : List Int)))), (4, (.int .i64 set_38))] s → i_net_treedepths_l2 F w_1 k depths_37 set_38 = some r → Run D σ (R67 r) (.run A67_1 [.lp A67_1, .bk 0, .sq A67_14]) s := by
  intro k
  induction k with
  | zero => intro depths_37 set_38 s _ h; exact nomatch (h : (none : Option _) = some r)
  | succ k ih =>
    intro depths_37 set_38 s hs h
    rw [i_net_treedepths_l2] at h
    obtain ⟨h1, h2, h3, h4⟩ := hs
    refine .seq ?_
    refine .seq ?_
    refine run_reg ?_
    refine e_end ?_
    refine g_v1 (t := 4) (u := (.int .i64 set_38)) (.int .i64 set_38) h4 rfl rfl ?_
    refine g_v1 (t := 3) (u := (encO (.at 3 []) (.of (depths_37 : List Int)))) (encO (.at 3 []) (.of (depths_37 : List Int))) h3 rfl rfl ?_
    refine g_v (.int .i64 (depths_37.length : Int)) (ev_lenO (o := .of depths_37) rfl) ?_
    refine g_v2 (t1 := 12) (t2 := 14) (u1 := (.int .i64 set_38)) (u2 := (.int .i64 (depths_37.length : Int))) (.bool (decide (set_38 < (depths_37.length : Int)))) rfl rfl rfl rfl ?_
    refine g_end ?_
    refine e_end ?_
    refine renew [(1, (.ref (.bx 1) 0 [] (.agg [(Enc.enc (w_1.a : List Int))]))), (2, (.sl .nl (Enc.shp Int) 0 [])), (3, (encO (.at 3 []) (.of (depths_37 : List Int)))), (4, (.int .i64 set_38)), (15, (.bool (decide (set_38 < (depths_37.length : Int)))))] ⟨h1, h2, h3, h4, rfl⟩ ?_
    rintro s ⟨h1, h2, h3, h4, h15⟩
    refine .nsq ?_
    refine run_cond (t := decide (set_38 < (depths_37.length : Int))) h15 h (fun h => ?_) (fun h => ?_)
    · refine .skip ?_
      refine .nsq ?_
      refine .seq ?_
      refine .block ?_
      refine .seq ?_
      refine run_reg ?_
      refine e_end ?_
      refine g_v1 (t := 1) (u := (.ref (.bx 1) 0 [] (.agg [(Enc.enc (w_1.a : List Int))]))) (.agg [(Enc.enc (w_1.a : List Int))]) h1 rfl rfl ?_
      refine g_v1 (t := 4) (u := (.int .i64 set_38)) (.int .i64 set_38) h4 rfl rfl ?_
      obtain ⟨r_72, E_r_72, h⟩ := bind_some h
      refine g_call (m := 0) (al := true) (r := (Enc.enc (r_72 : (List Int)))) [Enc.enc (w_1 : (S1 (List Int))), Enc.enc (set_38 : Int)] (ta_cons (v := (.agg [(Enc.enc (w_1.a : List Int))])) rfl rfl (Enc.erase_enc (w_1 : (S1 (List Int)))) (ta_cons (v := (.int .i64 set_38)) rfl rfl rfl ta_nil)) (H.c76 _ _ _ E_r_72) H.g76 (hal_of (ht_cons (v := (.agg [(Enc.enc (w_1.a : List Int))])) rfl rfl rfl (ht_cons (v := (.int .i64 set_38)) rfl rfl rfl ht_nil))) rfl rfl rfl ?_
      refine g_v1 (t := 20) (u := (Enc.enc (r_72 : List Int))) (Enc.enc (r_72 : List Int)) rfl rfl rfl ?_
      refine g_end ?_
      refine e_end ?_
      refine renew [(1, (.ref (.bx 1) 0 [] (.agg [(Enc.enc (w_1.a : List Int))]))), (2, (.sl .nl (Enc.shp Int) 0 [])), (3, (encO (.at 3 []) (.of (depths_37 : List Int)))), (4, (.int .i64 set_38)), (5, (Enc.enc (r_72 : List Int)))] ⟨h1, h2, h3, h4, rfl⟩ ?_
      rintro s ⟨h1, h2, h3, h4, h5⟩
      refine .nsq ?_
      refine .seq ?_
      refine .seq ?_
      refine run_reg ?_
      refine e_end ?_
      refine g_v1 (t := 5) (u := (Enc.enc (r_72 : List Int))) (Enc.enc (r_72 : List Int)) h5 rfl rfl ?_
      refine g_v (.int .i64 (r_72.length : Int)) (ev_len (xs := r_72) rfl) ?_
      refine g_v1 (t := 22) (u := (.int .i64 (r_72.length : Int))) (.bool (decide ((r_72.length : Int) > 1))) rfl rfl rfl ?_
      refine g_end ?_
      refine e_end ?_
      refine renew [(1, (.ref (.bx 1) 0 [] (.agg [(Enc.enc (w_1.a : List Int))]))), (2, (.sl .nl (Enc.shp Int) 0 [])), (3, (encO (.at 3 []) (.of (depths_37 : List Int)))), (4, (.int .i64 set_38)), (5, (Enc.enc (r_72 : List Int))), (23, (.bool (decide ((r_72.length : Int) > 1))))] ⟨h1, h2, h3, h4, h5, rfl⟩ ?_
      rintro s ⟨h1, h2, h3, h4, h5, h23⟩
      refine .nsq ?_
      refine run_cond (t := decide ((r_72.length : Int) > 1)) h23 h (fun h => ?_) (fun h => ?_)
      · refine .seq ?_
        refine .seq ?_
        refine run_reg ?_
        refine e_end ?_
        refine g_v1 (t := 5) (u := (Enc.enc (r_72 : List Int))) (Enc.enc (r_72 : List Int)) h5 rfl rfl ?_
        refine g_v (.int .i64 (r_72.length : Int)) (ev_len (xs := r_72) rfl) ?_
        refine g_v0 (.int .i64 0) rfl rfl ?_
        refine g_end ?_
        refine e_end ?_
        refine renew [(1, (.ref (.bx 1) 0 [] (.agg [(Enc.enc (w_1.a : List Int))]))), (2, (.sl .nl (Enc.shp Int) 0 [])), (3, (encO (.at 3 []) (.of (depths_37 : List Int)))), (4, (.int .i64 set_38)), (24, (Enc.enc (r_72 : List Int))), (25, (.int .i64 (r_72.length : Int))), (26, (.int .i64 0))] ⟨h1, h2, h3, h4, rfl, rfl, rfl⟩ ?_
        rintro s ⟨h1, h2, h3, h4, h24, h25, h26⟩
        refine .nsq ?_
        refine .block ?_
        refine .loop ?_
        exact t_f67_l1 H w_1 set_38 r_72 (i_net_treedepths_l2 F w_1 k) ih F depths_37 0 _ ⟨h1, h2, h3, h4, h24, h25, h26⟩ h
      · refine .skip ?_
        refine .nsq ?_
        refine run_reg ?_
        refine e_end ?_
        refine g_v1 (t := 3) (u := (encO (.at 3 []) (.of (depths_37 : List Int)))) (encO (.at 3 []) (.of (depths_37 : List Int))) h3 rfl rfl ?_
        refine g_v1 (t := 4) (u := (.int .i64 set_38)) (.int .i64 set_38) h4 rfl rfl ?_
        refine g_v1 (t := 3) (u := (encO (.at 3 []) (.of (depths_37 : List Int)))) (encO (.at 3 []) (.of (depths_37 : List Int))) h3 rfl rfl ?_
        refine g_v1 (t := 4) (u := (.int .i64 set_38)) (.int .i64 set_38) h4 rfl rfl ?_
        refine g_v1 (t := 1) (u := (.ref (.bx 1) 0 [] (.agg [(Enc.enc (w_1.a : List Int))]))) (.agg [(Enc.enc (w_1.a : List Int))]) h1 rfl rfl ?_
        refine g_v1 (t := 3) (u := (encO (.at 3 []) (.of (depths_37 : List Int)))) (encO (.at 3 []) (.of (depths_37 : List Int))) h3 rfl rfl ?_
        refine g_v1 (t := 4) (u := (.int .i64 set_38)) (.int .i64 set_38) h4 rfl rfl ?_
        obtain ⟨r_101, E_r_101, h⟩ := bind_some h
        refine g_call (m := 0) (al := false) (r := (Enc.enc (r_101 : Int))) [Enc.enc (w_1 : (S1 (List Int))), Enc.enc (depths_37 : (List Int)), Enc.enc (set_38 : Int)] (ta_cons (v := (.agg [(Enc.enc (w_1.a : List Int))])) rfl rfl (Enc.erase_enc (w_1 : (S1 (List Int)))) (ta_cons (v := (encO (.at 3 []) (.of (depths_37 : List Int)))) rfl rfl (erase_encO (o := .of depths_37)) (ta_cons (v := (.int .i64 set_38)) rfl rfl rfl ta_nil))) (H.c113 _ _ _ _ E_r_101) H.g113 rfl rfl rfl rfl ?_
        obtain ⟨q_102, E_q_102, h⟩ := bind_some h
        refine g_v (.int .i64 q_102) (ev_shl rfl rfl E_q_102) ?_
        refine g_v2 (t1 := 46) (t2 := 51) (u1 := (.int .i64 set_38)) (u2 := (.int .i64 q_102)) (.int .i64 (iandNot .i64 set_38 q_102)) rfl rfl rfl rfl ?_
        obtain ⟨e_103, E_e_103, h⟩ := bind_some h
        refine g_v (.ref (.at 3 []) ((iandNot .i64 set_38 q_102).toNat) [] (.int .i64 e_103)) (ev_idxO (o := (.of depths_37)) rfl rfl E_e_103 rfl) ?_
        refine g_v1 (t := 53) (u := (.ref (.at 3 []) ((iandNot .i64 set_38 q_102).toNat) [] (.int .i64 e_103))) (.int .i64 e_103) rfl rfl rfl ?_
        refine g_v1 (t := 54) (u := (.int .i64 e_103)) (.int .i64 (w64 (e_103 + 1))) rfl rfl rfl ?_
        obtain ⟨e_104, E_e_104, h⟩ := bind_some h
        refine g_v (.ref (.at 3 []) set_38.toNat [] (.int .i64 e_104)) (ev_idxO (o := (.of depths_37)) rfl rfl E_e_104 rfl) ?_
        refine g_store (.int .i64 (w64 (e_103 + 1))) (rd_of rfl rfl) (rd_of rfl rfl) (by refine ⟨by decide, by decide, rfl, rfl, rfl, ?_⟩; first | rfl | simp [V.toks, V.tokss, Enc.toks_enc]) ?_
        refine g_end ?_
        refine e_end ?_
        refine renew [(1, (.ref (.bx 1) 0 [] (.agg [(Enc.enc (w_1.a : List Int))]))), (2, (.sl .nl (Enc.shp Int) 0 [])), (3, (encO (.at 3 []) (.of (depths_37.set set_38.toNat (w64 (e_103 + 1)) : List Int)))), (4, (.int .i64 set_38))] ⟨(keep_mut h1 (mut_ref_ne rfl rfl (mut_agg (muts_cons (Enc.mut_enc _ _ _ _ (w_1.a : List Int)) rfl)))), (keep_mut h2 rfl), (keep_mut h3 mut_own), (keep_mut h4 rfl)⟩ ?_
        rintro s ⟨h1, h2, h3, h4⟩
        refine .nbk ?_
        refine .nsq ?_
        refine run_reg ?_
        refine e_end ?_
        refine g_v1 (t := 4) (u := (.int .i64 set_38)) (.int .i64 set_38) h4 rfl rfl ?_
        refine g_v1 (t := 16) (u := (.int .i64 set_38)) (.int .i64 (w64 (set_38 + 1))) rfl rfl rfl ?_
        refine g_v1 (t := 17) (u := (.int .i64 (w64 (set_38 + 1)))) (.int .i64 (w64 (set_38 + 1))) rfl rfl rfl ?_
        refine g_end ?_
        refine e_end ?_
        refine renew [(1, (.ref (.bx 1) 0 [] (.agg [(Enc.enc (w_1.a : List Int))]))), (2, (.sl .nl (Enc.shp Int) 0 [])), (3, (encO (.at 3 []) (.of (depths_37.set set_38.toNat (w64 (e_103 + 1)) : List Int)))), (4, (.int .i64 (w64 (set_38 + 1))))] ⟨h1, h2, h3, rfl⟩ ?_
        rintro s ⟨h1, h2, h3, h4⟩
        refine .nlp ?_
        exact ih (depths_37.set set_38.toNat (w64 (e_103 + 1))) (w64 (set_38 + 1)) _ ⟨h1, h2, h3, h4⟩ h
    · refine .exit ?_
      refine .esq ?_
      refine .elp ?_
      refine .ebk ?_
      refine .nsq ?_
      refine .seq ?_
      refine run_reg ?_
      refine e_end ?_
      refine g_v1 (t := 3) (u := (encO (.at 3 []) (.of (depths_37 : List Int)))) (encO (.at 3 []) (.of (depths_37 : List Int))) h3 rfl rfl ?_
      refine g_v1 (t := 57) (u := (encO (.at 3 []) (.of (depths_37 : List Int)))) (encO (.at 3 []) (.of (depths_37 : List Int))) rfl rfl rfl ?_
      refine g_end ?_
      refine e_home (r := 3) (x := 2) (v := (encO (.at 3 []) (.of (depths_37 : List Int)))) (by exact rfl) rfl (fun s_4 hg_4 => ?_)
      refine e_end ?_
      refine renew [(2, (encO (.at 2 []) (.of (depths_37 : List Int))))] (hg_4 2 (encO (.at 3 []) (.of (depths_37 : List Int))) (encO (.at 2 []) (.of (depths_37 : List Int))) rfl (map_encO (r := 3) (p := []) rfl rfl)) ?_
      rintro s h2
      refine .nsq ?_
      refine .ret ?_
      have hr := Option.some.inj h
      subst hr
      exact rrA (res_tmp h2) (fin_ret1 (fin_own (o := .of depths_37)))
def i_net_treedepths (F : Nat) (w_1 : (S1 (List Int))) : Option (List Int) :=
  (i_net_all F w_1).bind fun r_2 =>
  (mkN (w64 (r_2 + 1)) 0).bind fun mk_3 =>
  i_net_treedepths_l2 F w_1 F mk_3 1
theorem t67 (H : H67 D σ F) (w_1 : (S1 (List Int))) (s : Nat → V) (hs : Facts [(0, (.agg [(Enc.enc (w_1.a : List Int))]))] s) (h : i_net_treedepths F w_1 = some r) : Run D σ (R67 r) (.run A67 []) s := by
  unfold i_net_treedepths at h
  have h0 := hs
  refine .seq ?_
  refine run_reg ?_
  refine e_clr ?_
  refine e_end ?_
  refine g_box (.agg [(Enc.enc (w_1.a : List Int))]) (rd_of (keep_clear (s := s) (pk := [1]) h0 rfl (map_agg (maps_cons (Enc.map_enc _ (w_1.a : List Int)) maps_nil))) rfl) (gone_clear (s := s) (pk := [1]) (t := 1) rfl) rfl ?_
  refine g_v0 (.sl .nl (Enc.shp Int) 0 []) rfl rfl ?_
  refine g_end ?_
  refine e_end ?_
  refine renew [(1, (.ref (.bx 1) 0 [] (.agg [(Enc.enc (w_1.a : List Int))]))), (2, (.sl .nl (Enc.shp Int) 0 []))] ⟨rfl, rfl⟩ ?_
  rintro s ⟨h1, h2⟩
  refine .nsq ?_
  refine .seq ?_
  refine run_reg ?_
  refine e_clr ?_
  refine e_end ?_
  refine g_v1 (t := 1) (u := (.ref (.bx 1) 0 [] (.agg [(Enc.enc (w_1.a : List Int))]))) (.agg [(Enc.enc (w_1.a : List Int))]) (keep_clear (s := s) (pk := [11]) h1 rfl (map_bx rfl (map_agg (maps_cons (Enc.map_enc _ (w_1.a : List Int)) maps_nil)))) rfl rfl ?_
  obtain ⟨r_2, E_r_2, h⟩ := bind_some h
  refine g_call (m := 0) (al := false) (r := (Enc.enc (r_2 : Int))) [Enc.enc (w_1 : (S1 (List Int)))] (ta_cons (v := (.agg [(Enc.enc (w_1.a : List Int))])) rfl rfl (Enc.erase_enc (w_1 : (S1 (List Int)))) ta_nil) (H.c68 _ _ E_r_2) H.g68 rfl rfl rfl rfl ?_
  refine g_v1 (t := 9) (u := (.int .i64 r_2)) (.int .i64 (w64 (r_2 + 1))) rfl rfl rfl ?_
  obtain ⟨mk_3, E_mk_3, h⟩ := bind_some h
  refine g_mk (0 : Int) rfl rfl (gone_clear (s := s) (pk := [11]) (t := 11) rfl) E_mk_3 ?_
  refine g_v1 (t := 11) (u := (encO (.at 11 []) (.of (mk_3 : List Int)))) (encO (.at 11 []) (.of (mk_3 : List Int))) rfl rfl rfl ?_
  refine g_end ?_
  refine e_home (r := 11) (x := 3) (v := (encO (.at 11 []) (.of (mk_3 : List Int)))) (by exact rfl) rfl (fun s_3 hg_3 => ?_)
  refine e_end ?_
  refine renew [(1, (.ref (.bx 1) 0 [] (.agg [(Enc.enc (w_1.a : List Int))]))), (2, (.sl .nl (Enc.shp Int) 0 [])), (3, (encO (.at 3 []) (.of (mk_3 : List Int))))] ⟨(hg_3 1 (.ref (.bx 1) 0 [] (.agg [(Enc.enc (w_1.a : List Int))])) (.ref (.bx 1) 0 [] (.agg [(Enc.enc (w_1.a : List Int))])) (keep_clear (s := s) (pk := [11]) h1 rfl (map_bx rfl (map_agg (maps_cons (Enc.map_enc _ (w_1.a : List Int)) maps_nil)))) (map_bx rfl (map_agg (maps_cons (Enc.map_enc _ (w_1.a : List Int)) maps_nil)))), (hg_3 2 (.sl .nl (Enc.shp Int) 0 []) (.sl .nl (Enc.shp Int) 0 []) (keep_clear (s := s) (pk := [11]) h2 rfl rfl) rfl), (hg_3 3 (encO (.at 11 []) (.of (mk_3 : List Int))) (encO (.at 3 []) (.of (mk_3 : List Int))) rfl (map_encO (r := 11) (p := []) rfl rfl))⟩ ?_
  rintro s ⟨h1, h2, h3⟩
  refine .nsq ?_
  refine .seq ?_
  refine .seq ?_
  refine run_reg ?_
  refine e_end ?_
  refine g_v0 (.int .i64 1) rfl rfl ?_
  refine g_end ?_
  refine e_end ?_
  refine renew [(1, (.ref (.bx 1) 0 [] (.agg [(Enc.enc (w_1.a : List Int))]))), (2, (.sl .nl (Enc.shp Int) 0 [])), (3, (encO (.at 3 []) (.of (mk_3 : List Int)))), (4, (.int .i64 1))] ⟨h1, h2, h3, rfl⟩ ?_
  rintro s ⟨h1, h2, h3, h4⟩
  refine .nsq ?_
  refine .block ?_
  refine .loop ?_
  exact t_f67_l2 H w_1 F mk_3 1 _ ⟨h1, h2, h3, h4⟩ h
end
def e67 (F : Nat) : Ent := ⟨67, dn1 (i_net_treedepths F) (fun (r : (List Int)) => (Enc.enc (r : (List Int)))), 0, true⟩
theorem o67 {D : Den} {σ : Sig} {F : Nat} (hF : Fits2 Try.prog D σ) (H : H67 D σ F) : (e67 F).Ok Try.prog := by
  refine ⟨fun args r h => ?_, ⟨Try.f67, Try.func67, rfl, rfl⟩⟩
  obtain ⟨x0, y, rfl, hy, rfl⟩ := dn1_open h
  exact contract_run hF (by kernel_rfl) Try.func67 rfl c67 (show 1 ≤ Try.f67.ntmps by decide) (t67 H x0 _ rfl hy)
/- loop.example/g01109/impl.StayersWin -/
def A27_1 : AC := (AC.cond (O.t 14) (AC.seq (AC.reg [] [(I.mk (some 4) none false (X.v (A.mov (O.k (V.bool false))))), (I.mk (some 5) none false (X.v (A.mov (O.k (V.bool false)))))] []) AC.ret) AC.skip)
def A27_3 : AC := (AC.seq (AC.reg [] [(I.mk (some 17) none false (X.v (A.mov (O.t 1)))), (I.mk (some 18) none false (X.v (A.load (Sh.ag [Sh.p]) (O.t 6)))), (I.mk (some 19) none false (X.call (O.k (V.fn 67 [] [])) [(O.t 18)])), (I.mk (some 20) none false (X.v (A.load (Sh.ag [Sh.p]) (O.t 6)))), (I.mk (some 21) none false (X.call (O.k (V.fn 68 [] [])) [(O.t 20)])), (I.mk (some 22) none false (X.v (A.idx (O.t 19) (O.t 21) 1))), (I.mk (some 23) none false (X.v (A.load Sh.s (O.t 22)))), (I.mk (some 24) none false (X.v (A.bin BinOp.geq (O.t 17) (O.t 23)))), (I.mk (some 4) none false (X.v (A.mov (O.t 24)))), (I.mk (some 5) none false (X.v (A.mov (O.k (V.bool true)))))] []) AC.ret)
def A27_2 : AC := (AC.seq (AC.reg [.clr [6]] [(I.mk (some 15) none false (X.v (A.load (Sh.ag [Sh.s, Sh.p]) (O.t 2)))), (I.mk (some 16) none false (X.call (O.k (V.fn 55 [] [])) [(O.t 15)])), (I.mk (some 6) none false (X.alloc (V.agg [(V.sl Tok.nl Sh.s 0 [])]))), (I.mk none none false (X.store (Sh.ag [Sh.p]) (O.t 6) (O.t 16)))] []) A27_3)
def A27_4 : AC := (AC.seq (AC.seq (AC.reg [] [(I.mk (some 7) none false (X.v (A.load (Sh.ag [Sh.s, Sh.p]) (O.t 2)))), (I.mk (some 8) none false (X.call (O.k (V.fn 50 [] [])) [(O.t 7)])), (I.mk (some 9) none false (X.v (A.un UnOp.not (O.t 8)))), (I.mk (some 10) none false (X.v (A.mov (O.t 9)))), (I.mk (some 11) (some (10, false)) false (X.v (A.mov (O.t 1)))), (I.mk (some 12) (some (10, false)) false (X.call (O.k (V.fn 66 [] [])) [(O.t 11), (O.k (V.int IntKind.i64 (Int.ofNat 0))), (O.k (V.int IntKind.i64 (Int.ofNat 8)))])), (I.mk (some 13) (some (10, false)) false (X.v (A.un UnOp.not (O.t 12)))), (I.mk (some 14) none false (X.v (A.pick (O.t 10) (O.k (V.bool true)) (O.t 13))))] []) A27_1) A27_2)
def A27 : AC := (AC.seq (AC.reg [.clr [2]] [(I.mk (some 2) none false (X.box (O.t 0))), (I.mk (some 4) none false (X.v (A.mov (O.k (V.bool false))))), (I.mk (some 5) none false (X.v (A.mov (O.k (V.bool false)))))] []) A27_4)
def an27 : List An := [{ id := 0, pre := [.clr [2]], ep := [], lin := [], sp := [] }, { id := 3, pre := [.clr [6]], ep := [], lin := [], sp := [] }]
theorem c27 : cC Try.prog Try.f27.ntmps an27 (Try.f27.body.getD .skip) = some A27 := by kernel_rfl
structure H27 (D : Den) (σ : Sig) (F : Nat) : Prop where
  c50 : ∀ x0 r, i_IsGraph F x0 = some r → D 50 [Enc.enc x0] = some (Enc.enc (r : Bool))
  g50 : σ 50 = some (0, false)
  c66 : ∀ x0 x1 x2 r, i_within F x0 x1 x2 = some r → D 66 [Enc.enc x0, Enc.enc x1, Enc.enc x2] = some (Enc.enc (r : Bool))
  g66 : σ 66 = some (0, false)
  c55 : ∀ x0 r, i_netOf F x0 = some r → D 55 [Enc.enc x0] = some (Enc.enc (r : (S1 (List Int))))
  g55 : σ 55 = some (0, true)
  c67 : ∀ x0 r, i_net_treedepths F x0 = some r → D 67 [Enc.enc x0] = some (Enc.enc (r : (List Int)))
  g67 : σ 67 = some (0, true)
  c68 : ∀ x0 r, i_net_all F x0 = some r → D 68 [Enc.enc x0] = some (Enc.enc (r : Int))
  g68 : σ 68 = some (0, false)
abbrev R27 (r : (Bool × Bool)) : (Nat → V) → Prop := RR Try.prog [.tmp 4, .tmp 5] 0 false (.tup [Enc.enc (r.1 : Bool), Enc.enc (r.2 : Bool)])
section
variable {D : Den} {σ : Sig} {F : Nat} {r : (Bool × Bool)}
def i_StayersWin_j1 (F : Nat) (k_2 : Int) (g_1 : (Int × (List (Int × Int))))  (t14_5 : Bool) : Option (Bool × Bool) :=
  bif t14_5 then
    some (false, false)
  else
    (i_netOf F g_1).bind fun r_6 =>
    (i_net_treedepths F r_6).bind fun r_7 =>
    (i_net_all F r_6).bind fun r_8 =>
    (idx r_7 r_8).bind fun e_9 =>
    some (decide (k_2 ≥ e_9), true)
theorem t_f27_j1 (H : H27 D σ F) (k_2 : Int) (g_1 : (Int × (List (Int × Int))))  (t14_5 : Bool) (s : Nat → V) (hs : Facts [(1, (.int .i64 k_2)), (2, (.ref (.bx 2) 0 [] (.agg [(.int .i64 g_1.1), (Enc.enc (g_1.2 : List (Int × Int)))]))), (4, (.bool false)), (5, (.bool false)), (14, (.bool t14_5))] s) (h : i_StayersWin_j1 F k_2 g_1  t14_5 = some r) : Run D σ (R27 r) (.nrm [.sq A27_1, .sq A27_2]) s := by
  unfold i_StayersWin_j1 at h
  obtain ⟨h1, h2, h4, h5, h14⟩ := hs
  refine .nsq ?_
  refine run_cond (t := t14_5) h14 h (fun h => ?_) (fun h => ?_)
  · refine .seq ?_
    refine run_reg ?_
    refine e_end ?_
    refine g_v0 (.bool false) rfl rfl ?_
    refine g_v0 (.bool false) rfl rfl ?_
    refine g_end ?_
    refine e_end ?_
    refine renew [(1, (.int .i64 k_2)), (2, (.ref (.bx 2) 0 [] (.agg [(.int .i64 g_1.1), (Enc.enc (g_1.2 : List (Int × Int)))]))), (4, (.bool false)), (5, (.bool false))] ⟨h1, h2, rfl, rfl⟩ ?_
    rintro s ⟨h1, h2, h4, h5⟩
    refine .nsq ?_
    refine .ret ?_
    have hr := Option.some.inj h
    subst hr
    exact rrB (res_tmp h4) (res_tmp h5) rfl
  · refine .skip ?_
    refine .nsq ?_
    refine .seq ?_
    refine run_reg ?_
    refine e_clr ?_
    refine e_end ?_
    refine g_v1 (t := 2) (u := (.ref (.bx 2) 0 [] (.agg [(.int .i64 g_1.1), (Enc.enc (g_1.2 : List (Int × Int)))]))) (.agg [(.int .i64 g_1.1), (Enc.enc (g_1.2 : List (Int × Int)))]) (keep_clear (s := s) (pk := [6]) h2 rfl (map_bx rfl (map_agg (maps_cons rfl (maps_cons (Enc.map_enc _ (g_1.2 : List (Int × Int))) maps_nil))))) rfl rfl ?_
    obtain ⟨r_6, E_r_6, h⟩ := bind_some h
    refine g_call (m := 0) (al := true) (r := (Enc.enc (r_6 : (S1 (List Int))))) [Enc.enc (g_1 : (Int × (List (Int × Int))))] (ta_cons (v := (.agg [(.int .i64 g_1.1), (Enc.enc (g_1.2 : List (Int × Int)))])) rfl rfl (Enc.erase_enc (g_1 : (Int × (List (Int × Int))))) ta_nil) (H.c55 _ _ E_r_6) H.g55 (hal_of (ht_cons (v := (.agg [(.int .i64 g_1.1), (Enc.enc (g_1.2 : List (Int × Int)))])) rfl rfl rfl ht_nil)) rfl rfl rfl ?_
    refine g_alloc (gone_clear (s := s) (pk := [6]) (t := 6) rfl) ?_
    refine g_store (.agg [(Enc.enc (r_6.a : List Int))]) (rd_of rfl rfl) (rd_of rfl rfl) (by refine ⟨by decide, by decide, rfl, rfl, rfl, ?_⟩; first | rfl | simp [V.toks, V.tokss, Enc.toks_enc]) ?_
    refine g_end ?_
    refine e_end ?_
    refine renew [(1, (.int .i64 k_2)), (4, (.bool false)), (5, (.bool false)), (6, (.ref (.bx 6) 0 [] (.agg [(Enc.enc (r_6.a : List Int))])))] ⟨(keep_mut (keep_clear (s := s) (pk := [6]) h1 rfl rfl) rfl), (keep_mut (keep_clear (s := s) (pk := [6]) h4 rfl rfl) rfl), (keep_mut (keep_clear (s := s) (pk := [6]) h5 rfl rfl) rfl), (keep_mut rfl rfl)⟩ ?_
    rintro s ⟨h1, h4, h5, h6⟩
    refine .nsq ?_
    refine .seq ?_
    refine run_reg ?_
    refine e_end ?_
    refine g_v1 (t := 1) (u := (.int .i64 k_2)) (.int .i64 k_2) h1 rfl rfl ?_
    refine g_v1 (t := 6) (u := (.ref (.bx 6) 0 [] (.agg [(Enc.enc (r_6.a : List Int))]))) (.agg [(Enc.enc (r_6.a : List Int))]) h6 rfl rfl ?_
    obtain ⟨r_7, E_r_7, h⟩ := bind_some h
    refine g_call (m := 0) (al := true) (r := (Enc.enc (r_7 : (List Int)))) [Enc.enc (r_6 : (S1 (List Int)))] (ta_cons (v := (.agg [(Enc.enc (r_6.a : List Int))])) rfl rfl (Enc.erase_enc (r_6 : (S1 (List Int)))) ta_nil) (H.c67 _ _ E_r_7) H.g67 (hal_of (ht_cons (v := (.agg [(Enc.enc (r_6.a : List Int))])) rfl rfl rfl ht_nil)) rfl rfl rfl ?_
    refine g_v1 (t := 6) (u := (.ref (.bx 6) 0 [] (.agg [(Enc.enc (r_6.a : List Int))]))) (.agg [(Enc.enc (r_6.a : List Int))]) h6 rfl rfl ?_
    obtain ⟨r_8, E_r_8, h⟩ := bind_some h
    refine g_call (m := 0) (al := false) (r := (Enc.enc (r_8 : Int))) [Enc.enc (r_6 : (S1 (List Int)))] (ta_cons (v := (.agg [(Enc.enc (r_6.a : List Int))])) rfl rfl (Enc.erase_enc (r_6 : (S1 (List Int)))) ta_nil) (H.c68 _ _ E_r_8) H.g68 rfl rfl rfl rfl ?_
    obtain ⟨e_9, E_e_9, h⟩ := bind_some h
    refine g_v (.ref .sh 0 [] (.int .i64 e_9)) (ev_idx (t := .sh) (lo := 0) (xs := r_7) rfl rfl E_e_9 rfl rfl) ?_
    refine g_v1 (t := 22) (u := (.ref .sh 0 [] (.int .i64 e_9))) (.int .i64 e_9) rfl rfl rfl ?_
    refine g_v2 (t1 := 17) (t2 := 23) (u1 := (.int .i64 k_2)) (u2 := (.int .i64 e_9)) (.bool (decide (k_2 ≥ e_9))) rfl rfl rfl rfl ?_
    refine g_v1 (t := 24) (u := (.bool (decide (k_2 ≥ e_9)))) (.bool (decide (k_2 ≥ e_9))) rfl rfl rfl ?_
    refine g_v0 (.bool true) rfl rfl ?_
    refine g_end ?_
    refine e_end ?_
    refine renew [(4, (.bool (decide (k_2 ≥ e_9)))), (5, (.bool true))] ⟨rfl, rfl⟩ ?_
    rintro s ⟨h4, h5⟩
    refine .nsq ?_
    refine .ret ?_
    have hr := Option.some.inj h
    subst hr
    exact rrB (res_tmp h4) (res_tmp h5) rfl
def i_StayersWin (F : Nat) (g_1 : (Int × (List (Int × Int)))) (k_2 : Int) : Option (Bool × Bool) :=
  (i_IsGraph F g_1).bind fun r_10 =>
  bif (!r_10) then
    i_StayersWin_j1 F k_2 g_1 true
  else
    (i_within F k_2 0 8).bind fun r_11 =>
    i_StayersWin_j1 F k_2 g_1 (!r_11)
theorem t27 (H : H27 D σ F) (g_1 : (Int × (List (Int × Int)))) (k_2 : Int) (s : Nat → V) (hs : Facts [(0, (.agg [(.int .i64 g_1.1), (Enc.enc (g_1.2 : List (Int × Int)))])), (1, (.int .i64 k_2))] s) (h : i_StayersWin F g_1 k_2 = some r) : Run D σ (R27 r) (.run A27 []) s := by
  unfold i_StayersWin at h
  obtain ⟨h0, h1⟩ := hs
  refine .seq ?_
  refine run_reg ?_
  refine e_clr ?_
  refine e_end ?_
  refine g_box (.agg [(.int .i64 g_1.1), (Enc.enc (g_1.2 : List (Int × Int)))]) (rd_of (keep_clear (s := s) (pk := [2]) h0 rfl (map_agg (maps_cons rfl (maps_cons (Enc.map_enc _ (g_1.2 : List (Int × Int))) maps_nil)))) rfl) (gone_clear (s := s) (pk := [2]) (t := 2) rfl) rfl ?_
  refine g_v0 (.bool false) rfl rfl ?_
  refine g_v0 (.bool false) rfl rfl ?_
  refine g_end ?_
  refine e_end ?_
  refine renew [(1, (.int .i64 k_2)), (2, (.ref (.bx 2) 0 [] (.agg [(.int .i64 g_1.1), (Enc.enc (g_1.2 : List (Int × Int)))]))), (4, (.bool false)), (5, (.bool false))] ⟨(keep_clear (s := s) (pk := [2]) h1 rfl rfl), rfl, rfl, rfl⟩ ?_
  rintro s ⟨h1, h2, h4, h5⟩
  refine .nsq ?_
  refine .seq ?_
  refine .seq ?_
  refine run_reg ?_
  refine e_end ?_
  refine g_v1 (t := 2) (u := (.ref (.bx 2) 0 [] (.agg [(.int .i64 g_1.1), (Enc.enc (g_1.2 : List (Int × Int)))]))) (.agg [(.int .i64 g_1.1), (Enc.enc (g_1.2 : List (Int × Int)))]) h2 rfl rfl ?_
  obtain ⟨r_10, E_r_10, h⟩ := bind_some h
  refine g_call (m := 0) (al := false) (r := (Enc.enc (r_10 : Bool))) [Enc.enc (g_1 : (Int × (List (Int × Int))))] (ta_cons (v := (.agg [(.int .i64 g_1.1), (Enc.enc (g_1.2 : List (Int × Int)))])) rfl rfl (Enc.erase_enc (g_1 : (Int × (List (Int × Int))))) ta_nil) (H.c50 _ _ E_r_10) H.g50 rfl rfl rfl rfl ?_
  refine g_v1 (t := 8) (u := (.bool r_10)) (.bool (!r_10)) rfl rfl rfl ?_
  refine g_v1 (t := 9) (u := (.bool (!r_10))) (.bool (!r_10)) rfl rfl rfl ?_
  refine split_on (c := (!r_10)) h (fun hg4 h => ?_) (fun hg4 h => ?_)
  · refine g_no (Eq.trans (b := .bool (!r_10)) rfl (congrArg V.bool hg4)) ?_
    refine g_no (Eq.trans (b := .bool (!r_10)) rfl (congrArg V.bool hg4)) ?_
    refine g_no (Eq.trans (b := .bool (!r_10)) rfl (congrArg V.bool hg4)) ?_
    refine g_v2 (t1 := 10) (t2 := 13) (u1 := (.bool true)) (u2 := (.tup [])) (.bool true) (Eq.trans (b := .bool (!r_10)) rfl (congrArg V.bool hg4)) rfl rfl rfl ?_
    refine g_end ?_
    refine e_end ?_
    refine renew [(1, (.int .i64 k_2)), (2, (.ref (.bx 2) 0 [] (.agg [(.int .i64 g_1.1), (Enc.enc (g_1.2 : List (Int × Int)))]))), (4, (.bool false)), (5, (.bool false)), (14, (.bool true))] ⟨h1, h2, h4, h5, rfl⟩ ?_
    rintro s ⟨h1, h2, h4, h5, h14⟩
    exact t_f27_j1 H k_2 g_1 true _ ⟨h1, h2, h4, h5, h14⟩ h
  · refine g_yes (Eq.trans (b := .bool (!r_10)) rfl (congrArg V.bool hg4)) (g_v1 (t := 1) (u := (.int .i64 k_2)) (.int .i64 k_2) h1 rfl rfl ?_)
    obtain ⟨r_11, E_r_11, h⟩ := bind_some h
    refine g_yes (Eq.trans (b := .bool (!r_10)) rfl (congrArg V.bool hg4)) (g_call (m := 0) (al := false) (r := (Enc.enc (r_11 : Bool))) [Enc.enc (k_2 : Int), Enc.enc (0 : Int), Enc.enc (8 : Int)] (ta_cons (v := (.int .i64 k_2)) rfl rfl rfl (ta_cons (v := (.int .i64 0)) rfl rfl rfl (ta_cons (v := (.int .i64 8)) rfl rfl rfl ta_nil))) (H.c66 _ _ _ _ E_r_11) H.g66 rfl rfl rfl rfl ?_)
    refine g_yes (Eq.trans (b := .bool (!r_10)) rfl (congrArg V.bool hg4)) (g_v1 (t := 12) (u := (.bool r_11)) (.bool (!r_11)) rfl rfl rfl ?_)
    refine g_v2 (t1 := 10) (t2 := 13) (u1 := (.bool false)) (u2 := (.bool (!r_11))) (.bool (!r_11)) (Eq.trans (b := .bool (!r_10)) rfl (congrArg V.bool hg4)) rfl rfl rfl ?_
    refine g_end ?_
    refine e_end ?_
    refine renew [(1, (.int .i64 k_2)), (2, (.ref (.bx 2) 0 [] (.agg [(.int .i64 g_1.1), (Enc.enc (g_1.2 : List (Int × Int)))]))), (4, (.bool false)), (5, (.bool false)), (14, (.bool (!r_11)))] ⟨h1, h2, h4, h5, rfl⟩ ?_
    rintro s ⟨h1, h2, h4, h5, h14⟩
    exact t_f27_j1 H k_2 g_1 (!r_11) _ ⟨h1, h2, h4, h5, h14⟩ h
end
def e27 (F : Nat) : Ent := ⟨27, dn2 (i_StayersWin F) (fun (r : (Bool × Bool)) => (.tup [Enc.enc (r.1 : Bool), Enc.enc (r.2 : Bool)])), 0, false⟩
theorem o27 {D : Den} {σ : Sig} {F : Nat} (hF : Fits2 Try.prog D σ) (H : H27 D σ F) : (e27 F).Ok Try.prog := by
  refine ⟨fun args r h => ?_, ⟨Try.f27, Try.func27, rfl, rfl⟩⟩
  obtain ⟨x0, x1, y, rfl, hy, rfl⟩ := dn2_open h
  exact contract_run hF (by kernel_rfl) Try.func27 rfl c27 (show 2 ≤ Try.f27.ntmps by decide) (t27 H x0 x1 _ ⟨rfl, rfl⟩ hy)
/- loop.example/g01109/laws.eqIntA2 -/
def A104_2 : AC := (AC.cond (O.t 7) AC.skip (AC.exit 0))
def A104_4 : AC := (AC.cond (O.t 16) (AC.seq (AC.reg [] [(I.mk (some 4) none false (X.v (A.mov (O.k (V.bool false)))))] []) AC.ret) AC.skip)
def A104_5 : AC := (AC.reg [] [(I.mk (some 8) none false (X.v (A.mov (O.t 5)))), (I.mk (some 9) none false (X.v (A.bin BinOp.add (O.t 8) (O.k (V.int IntKind.i64 (Int.ofNat 1)))))), (I.mk (some 5) none false (X.v (A.mov (O.t 9))))] [])
def A104_3 : AC := (AC.seq (AC.block 1 (AC.seq (AC.reg [] [(I.mk (some 10) none false (X.v (A.mov (O.t 5)))), (I.mk (some 11) none false (X.v (A.idxA (O.t 2) (O.t 10) 2 1))), (I.mk (some 12) none false (X.v (A.load Sh.s (O.t 11)))), (I.mk (some 13) none false (X.v (A.mov (O.t 5)))), (I.mk (some 14) none false (X.v (A.idxA (O.t 3) (O.t 13) 2 1))), (I.mk (some 15) none false (X.v (A.load Sh.s (O.t 14)))), (I.mk (some 16) none false (X.v (A.bin BinOp.neq (O.t 12) (O.t 15))))] []) A104_4)) A104_5)
def A104_1 : AC := (AC.seq (AC.seq (AC.reg [] [(I.mk (some 6) none false (X.v (A.mov (O.t 5)))), (I.mk (some 7) none false (X.v (A.bin BinOp.lss (O.t 6) (O.k (V.int IntKind.i64 (Int.ofNat 2))))))] []) A104_2) A104_3)
def A104_6 : AC := (AC.seq (AC.reg [] [(I.mk (some 4) none false (X.v (A.mov (O.k (V.bool true)))))] []) AC.ret)
def A104_8 : AC := (AC.block 0 (AC.loop A104_1))
def A104_7 : AC := (AC.seq (AC.seq (AC.reg [] [(I.mk (some 5) none false (X.v (A.mov (O.k (V.int IntKind.i64 (Int.ofNat 0))))))] []) A104_8) A104_6)
def A104 : AC := (AC.seq (AC.reg [.clr [2, 3]] [(I.mk (some 2) none false (X.box (O.t 0))), (I.mk (some 3) none false (X.box (O.t 1))), (I.mk (some 4) none false (X.v (A.mov (O.k (V.bool false)))))] []) A104_7)
def an104 : List An := [{ id := 0, pre := [.clr [2, 3]], ep := [], lin := [], sp := [] }]
theorem c104 : cC Try.prog Try.f104.ntmps an104 (Try.f104.body.getD .skip) = some A104 := by kernel_rfl
structure H104 (D : Den) (σ : Sig) (F : Nat) : Prop where
  mk ::
abbrev R104 (r : Bool) : (Nat → V) → Prop := RR Try.prog [.tmp 4] 0 false (Enc.enc (r : Bool))
section
variable {D : Den} {σ : Sig} {F : Nat} {r : Bool}
def w_eqIntA2_l1 (F : Nat) (a_1 : (Int × Int)) (b_2 : (Int × Int))  : Nat → Int → Option Bool
  | 0, _ => none
  | k + 1, i_3 =>
    bif decide (i_3 < 2) then
      (idx [a_1.1, a_1.2] i_3).bind fun e_6 =>
      (idx [b_2.1, b_2.2] i_3).bind fun e_7 =>
      bif (e_6 != e_7) then
        some false
      else
        (w_eqIntA2_l1 F a_1 b_2 k) (w64 (i_3 + 1))
    else
      some true
theorem t_f104_l1 (H : H104 D σ F) (a_1 : (Int × Int)) (b_2 : (Int × Int))  : ∀ (k : Nat) (i_3 : Int) (s : Nat → V), Facts [(2, (.ref (.bx 2) 0 [] (.agg [(.int .i64 a_1.1), (.int .i64 a_1.2)]))), (3, (.ref (.bx 3) 0 [] (.agg [(.int .i64 b_2.1), (.int .i64 b_2.2)]))), (4, (.bool false)), (5, (.int .i64 i_3))] s → w_eqIntA2_l1 F a_1 b_2 k i_3 = some r → Run D σ (R104 r) (.run A104_1 [.lp A104_1, .bk 0, .sq A104_6]) s := by
  intro k
  induction k with
  | zero => intro i_3 s _ h; exact nomatch (h : (none : Option _) = some r)
  | succ k ih =>
    intro i_3 s hs h
    rw [w_eqIntA2_l1] at h
    obtain ⟨h2, h3, h4, h5⟩ := hs
    refine .seq ?_
    refine .seq ?_
    refine run_reg ?_
    refine e_end ?_
    refine g_v1 (t := 5) (u := (.int .i64 i_3)) (.int .i64 i_3) h5 rfl rfl ?_
    refine g_v1 (t := 6) (u := (.int .i64 i_3)) (.bool (decide (i_3 < 2))) rfl rfl rfl ?_
    refine g_end ?_
    refine e_end ?_
    refine renew [(2, (.ref (.bx 2) 0 [] (.agg [(.int .i64 a_1.1), (.int .i64 a_1.2)]))), (3, (.ref (.bx 3) 0 [] (.agg [(.int .i64 b_2.1), (.int .i64 b_2.2)]))), (4, (.bool false)), (5, (.int .i64 i_3)), (7, (.bool (decide (i_3 < 2))))] ⟨h2, h3, h4, h5, rfl⟩ ?_
    rintro s ⟨h2, h3, h4, h5, h7⟩
    refine .nsq ?_
    refine run_cond (t := decide (i_3 < 2)) h7 h (fun h => ?_) (fun h => ?_)
    · refine .skip ?_
      refine .nsq ?_
      refine .seq ?_
      refine .block ?_
      refine .seq ?_
      refine run_reg ?_
      refine e_end ?_
      refine g_v1 (t := 5) (u := (.int .i64 i_3)) (.int .i64 i_3) h5 rfl rfl ?_
      obtain ⟨e_6, E_e_6, h⟩ := bind_some h
      refine g_v (.ref (.bx 2) 0 [i_3.toNat] (.int .i64 e_6)) (ev_idxA (xs := [a_1.1, a_1.2]) (a := e_6) (n := i_3) (q := []) h2 rfl E_e_6 rfl rfl rfl) ?_
      refine g_v1 (t := 11) (u := (.ref (.bx 2) 0 [i_3.toNat] (.int .i64 e_6))) (.int .i64 e_6) rfl rfl rfl ?_
      refine g_v1 (t := 5) (u := (.int .i64 i_3)) (.int .i64 i_3) h5 rfl rfl ?_
      obtain ⟨e_7, E_e_7, h⟩ := bind_some h
      refine g_v (.ref (.bx 3) 0 [i_3.toNat] (.int .i64 e_7)) (ev_idxA (xs := [b_2.1, b_2.2]) (a := e_7) (n := i_3) (q := []) h3 rfl E_e_7 rfl rfl rfl) ?_
      refine g_v1 (t := 14) (u := (.ref (.bx 3) 0 [i_3.toNat] (.int .i64 e_7))) (.int .i64 e_7) rfl rfl rfl ?_
      refine g_v2 (t1 := 12) (t2 := 15) (u1 := (.int .i64 e_6)) (u2 := (.int .i64 e_7)) (.bool (e_6 != e_7)) rfl rfl rfl rfl ?_
      refine g_end ?_
      refine e_end ?_
      refine renew [(2, (.ref (.bx 2) 0 [] (.agg [(.int .i64 a_1.1), (.int .i64 a_1.2)]))), (3, (.ref (.bx 3) 0 [] (.agg [(.int .i64 b_2.1), (.int .i64 b_2.2)]))), (4, (.bool false)), (5, (.int .i64 i_3)), (16, (.bool (e_6 != e_7)))] ⟨h2, h3, h4, h5, rfl⟩ ?_
      rintro s ⟨h2, h3, h4, h5, h16⟩
      refine .nsq ?_
      refine run_cond (t := (e_6 != e_7)) h16 h (fun h => ?_) (fun h => ?_)
      · refine .seq ?_
        refine run_reg ?_
        refine e_end ?_
        refine g_v0 (.bool false) rfl rfl ?_
        refine g_end ?_
        refine e_end ?_
        refine renew [(2, (.ref (.bx 2) 0 [] (.agg [(.int .i64 a_1.1), (.int .i64 a_1.2)]))), (3, (.ref (.bx 3) 0 [] (.agg [(.int .i64 b_2.1), (.int .i64 b_2.2)]))), (4, (.bool false)), (5, (.int .i64 i_3))] ⟨h2, h3, rfl, h5⟩ ?_
        rintro s ⟨h2, h3, h4, h5⟩
        refine .nsq ?_
        refine .ret ?_
        have hr := Option.some.inj h
        subst hr
        exact rrA (res_tmp h4) rfl
      · refine .skip ?_
        refine .nbk ?_
        refine .nsq ?_
        refine run_reg ?_
        refine e_end ?_
        refine g_v1 (t := 5) (u := (.int .i64 i_3)) (.int .i64 i_3) h5 rfl rfl ?_
        refine g_v1 (t := 8) (u := (.int .i64 i_3)) (.int .i64 (w64 (i_3 + 1))) rfl rfl rfl ?_
        refine g_v1 (t := 9) (u := (.int .i64 (w64 (i_3 + 1)))) (.int .i64 (w64 (i_3 + 1))) rfl rfl rfl ?_
        refine g_end ?_
        refine e_end ?_
        refine renew [(2, (.ref (.bx 2) 0 [] (.agg [(.int .i64 a_1.1), (.int .i64 a_1.2)]))), (3, (.ref (.bx 3) 0 [] (.agg [(.int .i64 b_2.1), (.int .i64 b_2.2)]))), (4, (.bool false)), (5, (.int .i64 (w64 (i_3 + 1))))] ⟨h2, h3, h4, rfl⟩ ?_
        rintro s ⟨h2, h3, h4, h5⟩
        refine .nlp ?_
        exact ih (w64 (i_3 + 1)) _ ⟨h2, h3, h4, h5⟩ h
    · refine .exit ?_
      refine .esq ?_
      refine .elp ?_
      refine .ebk ?_
      refine .nsq ?_
      refine .seq ?_
      refine run_reg ?_
      refine e_end ?_
      refine g_v0 (.bool true) rfl rfl ?_
      refine g_end ?_
      refine e_end ?_
      refine renew [(4, (.bool true))] rfl ?_
      rintro s h4
      refine .nsq ?_
      refine .ret ?_
      have hr := Option.some.inj h
      subst hr
      exact rrA (res_tmp h4) rfl
def w_eqIntA2 (F : Nat) (a_1 : (Int × Int)) (b_2 : (Int × Int)) : Option Bool :=
  w_eqIntA2_l1 F a_1 b_2 F 0
theorem t104 (H : H104 D σ F) (a_1 : (Int × Int)) (b_2 : (Int × Int)) (s : Nat → V) (hs : Facts [(0, (.agg [(.int .i64 a_1.1), (.int .i64 a_1.2)])), (1, (.agg [(.int .i64 b_2.1), (.int .i64 b_2.2)]))] s) (h : w_eqIntA2 F a_1 b_2 = some r) : Run D σ (R104 r) (.run A104 []) s := by
  unfold w_eqIntA2 at h
  obtain ⟨h0, h1⟩ := hs
  refine .seq ?_
  refine run_reg ?_
  refine e_clr ?_
  refine e_end ?_
  refine g_box (.agg [(.int .i64 a_1.1), (.int .i64 a_1.2)]) (rd_of (keep_clear (s := s) (pk := [2, 3]) h0 rfl (map_agg (maps_cons rfl (maps_cons rfl maps_nil)))) rfl) (gone_clear (s := s) (pk := [2, 3]) (t := 2) rfl) rfl ?_
  refine g_box (.agg [(.int .i64 b_2.1), (.int .i64 b_2.2)]) (rd_of (keep_clear (s := s) (pk := [2, 3]) h1 rfl (map_agg (maps_cons rfl (maps_cons rfl maps_nil)))) rfl) (gone_clear (s := s) (pk := [2, 3]) (t := 3) rfl) rfl ?_
  refine g_v0 (.bool false) rfl rfl ?_
  refine g_end ?_
  refine e_end ?_
  refine renew [(2, (.ref (.bx 2) 0 [] (.agg [(.int .i64 a_1.1), (.int .i64 a_1.2)]))), (3, (.ref (.bx 3) 0 [] (.agg [(.int .i64 b_2.1), (.int .i64 b_2.2)]))), (4, (.bool false))] ⟨rfl, rfl, rfl⟩ ?_
  rintro s ⟨h2, h3, h4⟩
  refine .nsq ?_
  refine .seq ?_
  refine .seq ?_
  refine run_reg ?_
  refine e_end ?_
  refine g_v0 (.int .i64 0) rfl rfl ?_
  refine g_end ?_
  refine e_end ?_
  refine renew [(2, (.ref (.bx 2) 0 [] (.agg [(.int .i64 a_1.1), (.int .i64 a_1.2)]))), (3, (.ref (.bx 3) 0 [] (.agg [(.int .i64 b_2.1), (.int .i64 b_2.2)]))), (4, (.bool false)), (5, (.int .i64 0))] ⟨h2, h3, h4, rfl⟩ ?_
  rintro s ⟨h2, h3, h4, h5⟩
  refine .nsq ?_
  refine .block ?_
  refine .loop ?_
  exact t_f104_l1 H a_1 b_2 F 0 _ ⟨h2, h3, h4, h5⟩ h
end
def e104 (F : Nat) : Ent := ⟨104, dn2 (w_eqIntA2 F) (fun (r : Bool) => (Enc.enc (r : Bool))), 0, false⟩
theorem o104 {D : Den} {σ : Sig} {F : Nat} (hF : Fits2 Try.prog D σ) (H : H104 D σ F) : (e104 F).Ok Try.prog := by
  refine ⟨fun args r h => ?_, ⟨Try.f104, Try.func104, rfl, rfl⟩⟩
  obtain ⟨x0, x1, y, rfl, hy, rfl⟩ := dn2_open h
  exact contract_run hF (by kernel_rfl) Try.func104 rfl c104 (show 2 ≤ Try.f104.ntmps by decide) (t104 H x0 x1 _ ⟨rfl, rfl⟩ hy)
/- loop.example/g01109/laws.eqIntA2S -/
def A53_2 : AC := (AC.cond (O.t 14) AC.skip (AC.exit 0))
def A53_4 : AC := (AC.cond (O.t 26) (AC.seq (AC.reg [] [(I.mk (some 4) none false (X.v (A.mov (O.k (V.bool false)))))] []) AC.ret) AC.skip)
def A53_5 : AC := (AC.reg [] [(I.mk (some 15) none false (X.v (A.mov (O.t 5)))), (I.mk (some 16) none false (X.v (A.bin BinOp.add (O.t 15) (O.k (V.int IntKind.i64 (Int.ofNat 1)))))), (I.mk (some 5) none false (X.v (A.mov (O.t 16))))] [])
def A53_3 : AC := (AC.seq (AC.block 1 (AC.seq (AC.reg [] [(I.mk (some 17) none false (X.v (A.mov (O.t 0)))), (I.mk (some 18) none false (X.v (A.mov (O.t 5)))), (I.mk (some 19) none false (X.v (A.idx (O.t 17) (O.t 18) 2))), (I.mk (some 20) none false (X.v (A.load (Sh.ag [Sh.s, Sh.s]) (O.t 19)))), (I.mk (some 21) none false (X.v (A.mov (O.t 1)))), (I.mk (some 22) none false (X.v (A.mov (O.t 5)))), (I.mk (some 23) none false (X.v (A.idx (O.t 21) (O.t 22) 2))), (I.mk (some 24) none false (X.v (A.load (Sh.ag [Sh.s, Sh.s]) (O.t 23)))), (I.mk (some 25) none false (X.call (O.k (V.fn 104 [] [])) [(O.t 20), (O.t 24)])), (I.mk (some 26) none false (X.v (A.un UnOp.not (O.t 25))))] []) A53_4)) A53_5)
def A53_1 : AC := (AC.seq (AC.seq (AC.reg [] [(I.mk (some 11) none false (X.v (A.mov (O.t 5)))), (I.mk (some 12) none false (X.v (A.mov (O.t 0)))), (I.mk (some 13) none false (X.v (A.len (O.t 12)))), (I.mk (some 14) none false (X.v (A.bin BinOp.lss (O.t 11) (O.t 13))))] []) A53_2) A53_3)
def A53_6 : AC := (AC.seq (AC.reg [] [(I.mk (some 4) none false (X.v (A.mov (O.k (V.bool true)))))] []) AC.ret)
def A53_8 : AC := (AC.cond (O.t 10) (AC.seq (AC.reg [] [(I.mk (some 4) none false (X.v (A.mov (O.k (V.bool false)))))] []) AC.ret) AC.skip)
def A53_10 : AC := (AC.block 0 (AC.loop A53_1))
def A53_9 : AC := (AC.seq (AC.seq (AC.reg [] [(I.mk (some 5) none false (X.v (A.mov (O.k (V.int IntKind.i64 (Int.ofNat 0))))))] []) A53_10) A53_6)
def A53_7 : AC := (AC.seq (AC.seq (AC.reg [] [(I.mk (some 6) none false (X.v (A.mov (O.t 0)))), (I.mk (some 7) none false (X.v (A.len (O.t 6)))), (I.mk (some 8) none false (X.v (A.mov (O.t 1)))), (I.mk (some 9) none false (X.v (A.len (O.t 8)))), (I.mk (some 10) none false (X.v (A.bin BinOp.neq (O.t 7) (O.t 9))))] []) A53_8) A53_9)
def A53 : AC := (AC.seq (AC.reg [] [(I.mk (some 4) none false (X.v (A.mov (O.k (V.bool false)))))] []) A53_7)
def an53 : List An := []
theorem c53 : cC Try.prog Try.f53.ntmps an53 (Try.f53.body.getD .skip) = some A53 := by kernel_rfl
structure H53 (D : Den) (σ : Sig) (F : Nat) : Prop where
  c104 : ∀ x0 x1 r, w_eqIntA2 F x0 x1 = some r → D 104 [Enc.enc x0, Enc.enc x1] = some (Enc.enc (r : Bool))
  g104 : σ 104 = some (0, false)
abbrev R53 (r : Bool) : (Nat → V) → Prop := RR Try.prog [.tmp 4] 0 false (Enc.enc (r : Bool))
section
variable {D : Den} {σ : Sig} {F : Nat} {r : Bool}
def w_eqIntA2S_l1 (F : Nat) (a_1 : (List (Int × Int))) (b_2 : (List (Int × Int)))  : Nat → Int → Option Bool
  | 0, _ => none
  | k + 1, i_6 =>
    bif decide (i_6 < (a_1.length : Int)) then
      (idx a_1 i_6).bind fun e_10 =>
      (idx b_2 i_6).bind fun e_11 =>
      (w_eqIntA2 F e_10 e_11).bind fun r_12 =>
      bif (!r_12) then
        some false
      else
        (w_eqIntA2S_l1 F a_1 b_2 k) (w64 (i_6 + 1))
    else
      some true
theorem t_f53_l1 (H : H53 D σ F) (a_1 : (List (Int × Int))) (b_2 : (List (Int × Int)))  : ∀ (k : Nat) (i_6 : Int) (s : Nat → V), Facts [(0, (Enc.enc (a_1 : List (Int × Int)))), (1, (Enc.enc (b_2 : List (Int × Int)))), (4, (.bool false)), (5, (.int .i64 i_6))] s → w_eqIntA2S_l1 F a_1 b_2 k i_6 = some r → Run D σ (R53 r) (.run A53_1 [.lp A53_1, .bk 0, .sq A53_6]) s := by
  intro k
  induction k with
  | zero => intro i_6 s _ h; exact nomatch (h : (none : Option _) = some r)
  | succ k ih =>
    intro i_6 s hs h
    rw [w_eqIntA2S_l1] at h
    obtain ⟨h0, h1, h4, h5⟩ := hs
    refine .seq ?_
    refine .seq ?_
    refine run_reg ?_
    refine e_end ?_
    refine g_v1 (t := 5) (u := (.int .i64 i_6)) (.int .i64 i_6) h5 rfl rfl ?_
    refine g_v1 (t := 0) (u := (Enc.enc (a_1 : List (Int × Int)))) (Enc.enc (a_1 : List (Int × Int))) h0 rfl rfl ?_
    refine g_v (.int .i64 (a_1.length : Int)) (ev_len (xs := a_1) rfl) ?_
    refine g_v2 (t1 := 11) (t2 := 13) (u1 := (.int .i64 i_6)) (u2 := (.int .i64 (a_1.length : Int))) (.bool (decide (i_6 < (a_1.length : Int)))) rfl rfl rfl rfl ?_
    refine g_end ?_
    refine e_end ?_
    refine renew [(0, (Enc.enc (a_1 : List (Int × Int)))), (1, (Enc.enc (b_2 : List (Int × Int)))), (4, (.bool false)), (5, (.int .i64 i_6)), (14, (.bool (decide (i_6 < (a_1.length : Int)))))] ⟨h0, h1, h4, h5, rfl⟩ ?_
    rintro s ⟨h0, h1, h4, h5, h14⟩
    refine .nsq ?_
    refine run_cond (t := decide (i_6 < (a_1.length : Int))) h14 h (fun h => ?_) (fun h => ?_)
    · refine .skip ?_
      refine .nsq ?_
      refine .seq ?_
      refine .block ?_
      refine .seq ?_
      refine run_reg ?_
      refine e_end ?_
      refine g_v1 (t := 0) (u := (Enc.enc (a_1 : List (Int × Int)))) (Enc.enc (a_1 : List (Int × Int))) h0 rfl rfl ?_
      refine g_v1 (t := 5) (u := (.int .i64 i_6)) (.int .i64 i_6) h5 rfl rfl ?_
      obtain ⟨e_10, E_e_10, h⟩ := bind_some h
      refine g_v (.ref .sh 0 [] (.agg [(.int .i64 e_10.1), (.int .i64 e_10.2)])) (ev_idx (t := .sh) (lo := 0) (xs := a_1) rfl rfl E_e_10 rfl rfl) ?_
      refine g_v1 (t := 19) (u := (.ref .sh 0 [] (.agg [(.int .i64 e_10.1), (.int .i64 e_10.2)]))) (.agg [(.int .i64 e_10.1), (.int .i64 e_10.2)]) rfl rfl rfl ?_
      refine g_v1 (t := 1) (u := (Enc.enc (b_2 : List (Int × Int)))) (Enc.enc (b_2 : List (Int × Int))) h1 rfl rfl ?_
      refine g_v1 (t := 5) (u := (.int .i64 i_6)) (.int .i64 i_6) h5 rfl rfl ?_
      obtain ⟨e_11, E_e_11, h⟩ := bind_some h
      refine g_v (.ref .sh 0 [] (.agg [(.int .i64 e_11.1), (.int .i64 e_11.2)])) (ev_idx (t := .sh) (lo := 0) (xs := b_2) rfl rfl E_e_11 rfl rfl) ?_
      refine g_v1 (t := 23) (u := (.ref .sh 0 [] (.agg [(.int .i64 e_11.1), (.int .i64 e_11.2)]))) (.agg [(.int .i64 e_11.1), (.int .i64 e_11.2)]) rfl rfl rfl ?_
      obtain ⟨r_12, E_r_12, h⟩ := bind_some h
      refine g_call (m := 0) (al := false) (r := (Enc.enc (r_12 : Bool))) [Enc.enc (e_10 : (Int × Int)), Enc.enc (e_11 : (Int × Int))] (ta_cons (v := (.agg [(.int .i64 e_10.1), (.int .i64 e_10.2)])) rfl rfl (Enc.erase_enc (e_10 : (Int × Int))) (ta_cons (v := (.agg [(.int .i64 e_11.1), (.int .i64 e_11.2)])) rfl rfl (Enc.erase_enc (e_11 : (Int × Int))) ta_nil)) (H.c104 _ _ _ E_r_12) H.g104 rfl rfl rfl rfl ?_
      refine g_v1 (t := 25) (u := (.bool r_12)) (.bool (!r_12)) rfl rfl rfl ?_
      refine g_end ?_
      refine e_end ?_
      refine renew [(0, (Enc.enc (a_1 : List (Int × Int)))), (1, (Enc.enc (b_2 : List (Int × Int)))), (4, (.bool false)), (5, (.int .i64 i_6)), (26, (.bool (!r_12)))] ⟨h0, h1, h4, h5, rfl⟩ ?_
      rintro s ⟨h0, h1, h4, h5, h26⟩
      refine .nsq ?_
      refine run_cond (t := (!r_12)) h26 h (fun h => ?_) (fun h => ?_)
      · refine .seq ?_
        refine run_reg ?_
        refine e_end ?_
        refine g_v0 (.bool false) rfl rfl ?_
        refine g_end ?_
        refine e_end ?_
        refine renew [(0, (Enc.enc (a_1 : List (Int × Int)))), (1, (Enc.enc (b_2 : List (Int × Int)))), (4, (.bool false)), (5, (.int .i64 i_6))] ⟨h0, h1, rfl, h5⟩ ?_
        rintro s ⟨h0, h1, h4, h5⟩
        refine .nsq ?_
        refine .ret ?_
        have hr := Option.some.inj h
        subst hr
        exact rrA (res_tmp h4) rfl
      · refine .skip ?_
        refine .nbk ?_
        refine .nsq ?_
        refine run_reg ?_
        refine e_end ?_
        refine g_v1 (t := 5) (u := (.int .i64 i_6)) (.int .i64 i_6) h5 rfl rfl ?_
        refine g_v1 (t := 15) (u := (.int .i64 i_6)) (.int .i64 (w64 (i_6 + 1))) rfl rfl rfl ?_
        refine g_v1 (t := 16) (u := (.int .i64 (w64 (i_6 + 1)))) (.int .i64 (w64 (i_6 + 1))) rfl rfl rfl ?_
        refine g_end ?_
        refine e_end ?_
        refine renew [(0, (Enc.enc (a_1 : List (Int × Int)))), (1, (Enc.enc (b_2 : List (Int × Int)))), (4, (.bool false)), (5, (.int .i64 (w64 (i_6 + 1))))] ⟨h0, h1, h4, rfl⟩ ?_
        rintro s ⟨h0, h1, h4, h5⟩
        refine .nlp ?_
        exact ih (w64 (i_6 + 1)) _ ⟨h0, h1, h4, h5⟩ h
    · refine .exit ?_
      refine .esq ?_
      refine .elp ?_
      refine .ebk ?_
      refine .nsq ?_
      refine .seq ?_
      refine run_reg ?_
      refine e_end ?_
      refine g_v0 (.bool true) rfl rfl ?_
      refine g_end ?_
      refine e_end ?_
      refine renew [(4, (.bool true))] rfl ?_
      rintro s h4
      refine .nsq ?_
      refine .ret ?_
      have hr := Option.some.inj h
      subst hr
      exact rrA (res_tmp h4) rfl
def w_eqIntA2S (F : Nat) (a_1 : (List (Int × Int))) (b_2 : (List (Int × Int))) : Option Bool :=
  bif ((a_1.length : Int) != (b_2.length : Int)) then
    some false
  else
    w_eqIntA2S_l1 F a_1 b_2 F 0
theorem t53 (H : H53 D σ F) (a_1 : (List (Int × Int))) (b_2 : (List (Int × Int))) (s : Nat → V) (hs : Facts [(0, (Enc.enc (a_1 : List (Int × Int)))), (1, (Enc.enc (b_2 : List (Int × Int))))] s) (h : w_eqIntA2S F a_1 b_2 = some r) : Run D σ (R53 r) (.run A53 []) s := by
  unfold w_eqIntA2S at h
  obtain ⟨h0, h1⟩ := hs
  refine .seq ?_
  refine run_reg ?_
  refine e_end ?_
  refine g_v0 (.bool false) rfl rfl ?_
  refine g_end ?_
  refine e_end ?_
  refine renew [(0, (Enc.enc (a_1 : List (Int × Int)))), (1, (Enc.enc (b_2 : List (Int × Int)))), (4, (.bool false))] ⟨h0, h1, rfl⟩ ?_
  rintro s ⟨h0, h1, h4⟩
  refine .nsq ?_
  refine .seq ?_
  refine .seq ?_
  refine run_reg ?_
  refine e_end ?_
  refine g_v1 (t := 0) (u := (Enc.enc (a_1 : List (Int × Int)))) (Enc.enc (a_1 : List (Int × Int))) h0 rfl rfl ?_
  refine g_v (.int .i64 (a_1.length : Int)) (ev_len (xs := a_1) rfl) ?_
  refine g_v1 (t := 1) (u := (Enc.enc (b_2 : List (Int × Int)))) (Enc.enc (b_2 : List (Int × Int))) h1 rfl rfl ?_
  refine g_v (.int .i64 (b_2.length : Int)) (ev_len (xs := b_2) rfl) ?_
  refine g_v2 (t1 := 7) (t2 := 9) (u1 := (.int .i64 (a_1.length : Int))) (u2 := (.int .i64 (b_2.length : Int))) (.bool ((a_1.length : Int) != (b_2.length : Int))) rfl rfl rfl rfl ?_
  refine g_end ?_
  refine e_end ?_
  refine renew [(0, (Enc.enc (a_1 : List (Int × Int)))), (1, (Enc.enc (b_2 : List (Int × Int)))), (4, (.bool false)), (10, (.bool ((a_1.length : Int) != (b_2.length : Int))))] ⟨h0, h1, h4, rfl⟩ ?_
  rintro s ⟨h0, h1, h4, h10⟩
  refine .nsq ?_
  refine run_cond (t := ((a_1.length : Int) != (b_2.length : Int))) h10 h (fun h => ?_) (fun h => ?_)
  · refine .seq ?_
    refine run_reg ?_
    refine e_end ?_
    refine g_v0 (.bool false) rfl rfl ?_
    refine g_end ?_
    refine e_end ?_
    refine renew [(0, (Enc.enc (a_1 : List (Int × Int)))), (1, (Enc.enc (b_2 : List (Int × Int)))), (4, (.bool false))] ⟨h0, h1, rfl⟩ ?_
    rintro s ⟨h0, h1, h4⟩
    refine .nsq ?_
    refine .ret ?_
    have hr := Option.some.inj h
    subst hr
    exact rrA (res_tmp h4) rfl
  · refine .skip ?_
    refine .nsq ?_
    refine .seq ?_
    refine .seq ?_
    refine run_reg ?_
    refine e_end ?_
    refine g_v0 (.int .i64 0) rfl rfl ?_
    refine g_end ?_
    refine e_end ?_
    refine renew [(0, (Enc.enc (a_1 : List (Int × Int)))), (1, (Enc.enc (b_2 : List (Int × Int)))), (4, (.bool false)), (5, (.int .i64 0))] ⟨h0, h1, h4, rfl⟩ ?_
    rintro s ⟨h0, h1, h4, h5⟩
    refine .nsq ?_
    refine .block ?_
    refine .loop ?_
    exact t_f53_l1 H a_1 b_2 F 0 _ ⟨h0, h1, h4, h5⟩ h
end
def e53 (F : Nat) : Ent := ⟨53, dn2 (w_eqIntA2S F) (fun (r : Bool) => (Enc.enc (r : Bool))), 0, false⟩
theorem o53 {D : Den} {σ : Sig} {F : Nat} (hF : Fits2 Try.prog D σ) (H : H53 D σ F) : (e53 F).Ok Try.prog := by
  refine ⟨fun args r h => ?_, ⟨Try.f53, Try.func53, rfl, rfl⟩⟩
  obtain ⟨x0, x1, y, rfl, hy, rfl⟩ := dn2_open h
  exact contract_run hF (by kernel_rfl) Try.func53 rfl c53 (show 2 ≤ Try.f53.ntmps by decide) (t53 H x0 x1 _ ⟨rfl, rfl⟩ hy)
/- loop.example/g01109/laws.eqGraph -/
def A20_2 : AC := (AC.cond (O.t 9) (AC.seq (AC.reg [] [(I.mk (some 4) none false (X.v (A.mov (O.k (V.bool false)))))] []) AC.ret) AC.skip)
def A20_4 : AC := (AC.cond (O.t 15) (AC.seq (AC.reg [] [(I.mk (some 4) none false (X.v (A.mov (O.k (V.bool false)))))] []) AC.ret) AC.skip)
def A20_5 : AC := (AC.seq (AC.reg [] [(I.mk (some 4) none false (X.v (A.mov (O.k (V.bool true)))))] []) AC.ret)
def A20_3 : AC := (AC.seq (AC.seq (AC.reg [] [(I.mk (some 10) none false (X.v (A.fld (O.t 2) 1 1))), (I.mk (some 11) none false (X.v (A.load Sh.p (O.t 10)))), (I.mk (some 12) none false (X.v (A.fld (O.t 3) 1 1))), (I.mk (some 13) none false (X.v (A.load Sh.p (O.t 12)))), (I.mk (some 14) none false (X.call (O.k (V.fn 53 [] [])) [(O.t 11), (O.t 13)])), (I.mk (some 15) none false (X.v (A.un UnOp.not (O.t 14))))] []) A20_4) A20_5)
def A20_1 : AC := (AC.seq (AC.seq (AC.reg [] [(I.mk (some 5) none false (X.v (A.fld (O.t 2) 0 0))), (I.mk (some 6) none false (X.v (A.load Sh.s (O.t 5)))), (I.mk (some 7) none false (X.v (A.fld (O.t 3) 0 0))), (I.mk (some 8) none false (X.v (A.load Sh.s (O.t 7)))), (I.mk (some 9) none false (X.v (A.bin BinOp.neq (O.t 6) (O.t 8))))] []) A20_2) A20_3)
def A20 : AC := (AC.seq (AC.reg [.clr [2, 3]] [(I.mk (some 2) none false (X.box (O.t 0))), (I.mk (some 3) none false (X.box (O.t 1))), (I.mk (some 4) none false (X.v (A.mov (O.k (V.bool false)))))] []) A20_1)
def an20 : List An := [{ id := 0, pre := [.clr [2, 3]], ep := [], lin := [], sp := [] }]
theorem c20 : cC Try.prog Try.f20.ntmps an20 (Try.f20.body.getD .skip) = some A20 := by kernel_rfl
structure H20 (D : Den) (σ : Sig) (F : Nat) : Prop where
  c53 : ∀ x0 x1 r, w_eqIntA2S F x0 x1 = some r → D 53 [Enc.enc x0, Enc.enc x1] = some (Enc.enc (r : Bool))
  g53 : σ 53 = some (0, false)
abbrev R20 (r : Bool) : (Nat → V) → Prop := RR Try.prog [.tmp 4] 0 false (Enc.enc (r : Bool))
section
variable {D : Den} {σ : Sig} {F : Nat} {r : Bool}
def w_eqGraph (F : Nat) (a_1 : (Int × (List (Int × Int)))) (b_2 : (Int × (List (Int × Int)))) : Option Bool :=
  bif (a_1.1 != b_2.1) then
    some false
  else
    (w_eqIntA2S F a_1.2 b_2.2).bind fun r_3 =>
    bif (!r_3) then
      some false
    else
      some true
theorem t20 (H : H20 D σ F) (a_1 : (Int × (List (Int × Int)))) (b_2 : (Int × (List (Int × Int)))) (s : Nat → V) (hs : Facts [(0, (.agg [(.int .i64 a_1.1), (Enc.enc (a_1.2 : List (Int × Int)))])), (1, (.agg [(.int .i64 b_2.1), (Enc.enc (b_2.2 : List (Int × Int)))]))] s) (h : w_eqGraph F a_1 b_2 = some r) : Run D σ (R20 r) (.run A20 []) s := by
  unfold w_eqGraph at h
  obtain ⟨h0, h1⟩ := hs
  refine .seq ?_
  refine run_reg ?_
  refine e_clr ?_
  refine e_end ?_
  refine g_box (.agg [(.int .i64 a_1.1), (Enc.enc (a_1.2 : List (Int × Int)))]) (rd_of (keep_clear (s := s) (pk := [2, 3]) h0 rfl (map_agg (maps_cons rfl (maps_cons (Enc.map_enc _ (a_1.2 : List (Int × Int))) maps_nil)))) rfl) (gone_clear (s := s) (pk := [2, 3]) (t := 2) rfl) rfl ?_
  refine g_box (.agg [(.int .i64 b_2.1), (Enc.enc (b_2.2 : List (Int × Int)))]) (rd_of (keep_clear (s := s) (pk := [2, 3]) h1 rfl (map_agg (maps_cons rfl (maps_cons (Enc.map_enc _ (b_2.2 : List (Int × Int))) maps_nil)))) rfl) (gone_clear (s := s) (pk := [2, 3]) (t := 3) rfl) rfl ?_
  refine g_v0 (.bool false) rfl rfl ?_
  refine g_end ?_
  refine e_end ?_
  refine renew [(2, (.ref (.bx 2) 0 [] (.agg [(.int .i64 a_1.1), (Enc.enc (a_1.2 : List (Int × Int)))]))), (3, (.ref (.bx 3) 0 [] (.agg [(.int .i64 b_2.1), (Enc.enc (b_2.2 : List (Int × Int)))]))), (4, (.bool false))] ⟨rfl, rfl, rfl⟩ ?_
  rintro s ⟨h2, h3, h4⟩
  refine .nsq ?_
  refine .seq ?_
  refine .seq ?_
  refine run_reg ?_
  refine e_end ?_
  refine g_v1 (t := 2) (u := (.ref (.bx 2) 0 [] (.agg [(.int .i64 a_1.1), (Enc.enc (a_1.2 : List (Int × Int)))]))) (.ref (.bx 2) 0 [0] (.int .i64 a_1.1)) h2 rfl rfl ?_
  refine g_v1 (t := 5) (u := (.ref (.bx 2) 0 [0] (.int .i64 a_1.1))) (.int .i64 a_1.1) rfl rfl rfl ?_
  refine g_v1 (t := 3) (u := (.ref (.bx 3) 0 [] (.agg [(.int .i64 b_2.1), (Enc.enc (b_2.2 : List (Int × Int)))]))) (.ref (.bx 3) 0 [0] (.int .i64 b_2.1)) h3 rfl rfl ?_
  refine g_v1 (t := 7) (u := (.ref (.bx 3) 0 [0] (.int .i64 b_2.1))) (.int .i64 b_2.1) rfl rfl rfl ?_
  refine g_v2 (t1 := 6) (t2 := 8) (u1 := (.int .i64 a_1.1)) (u2 := (.int .i64 b_2.1)) (.bool (a_1.1 != b_2.1)) rfl rfl rfl rfl ?_
  refine g_end ?_
  refine e_end ?_
  refine renew [(2, (.ref (.bx 2) 0 [] (.agg [(.int .i64 a_1.1), (Enc.enc (a_1.2 : List (Int × Int)))]))), (3, (.ref (.bx 3) 0 [] (.agg [(.int .i64 b_2.1), (Enc.enc (b_2.2 : List (Int × Int)))]))), (4, (.bool false)), (9, (.bool (a_1.1 != b_2.1)))] ⟨h2, h3, h4, rfl⟩ ?_
  rintro s ⟨h2, h3, h4, h9⟩
  refine .nsq ?_
  refine run_cond (t := (a_1.1 != b_2.1)) h9 h (fun h => ?_) (fun h => ?_)
  · refine .seq ?_
    refine run_reg ?_
    refine e_end ?_
    refine g_v0 (.bool false) rfl rfl ?_
    refine g_end ?_
    refine e_end ?_
    refine renew [(2, (.ref (.bx 2) 0 [] (.agg [(.int .i64 a_1.1), (Enc.enc (a_1.2 : List (Int × Int)))]))), (3, (.ref (.bx 3) 0 [] (.agg [(.int .i64 b_2.1), (Enc.enc (b_2.2 : List (Int × Int)))]))), (4, (.bool false))] ⟨h2, h3, rfl⟩ ?_
    rintro s ⟨h2, h3, h4⟩
    refine .nsq ?_
    refine .ret ?_
    have hr := Option.some.inj h
    subst hr
    exact rrA (res_tmp h4) rfl
  · refine .skip ?_
    refine .nsq ?_
    refine .seq ?_
    refine .seq ?_
    refine run_reg ?_
    refine e_end ?_
    refine g_v1 (t := 2) (u := (.ref (.bx 2) 0 [] (.agg [(.int .i64 a_1.1), (Enc.enc (a_1.2 : List (Int × Int)))]))) (.ref (.bx 2) 0 [1] (Enc.enc (a_1.2 : List (Int × Int)))) h2 rfl rfl ?_
    refine g_v1 (t := 10) (u := (.ref (.bx 2) 0 [1] (Enc.enc (a_1.2 : List (Int × Int))))) (Enc.enc (a_1.2 : List (Int × Int))) rfl rfl rfl ?_
    refine g_v1 (t := 3) (u := (.ref (.bx 3) 0 [] (.agg [(.int .i64 b_2.1), (Enc.enc (b_2.2 : List (Int × Int)))]))) (.ref (.bx 3) 0 [1] (Enc.enc (b_2.2 : List (Int × Int)))) h3 rfl rfl ?_
    refine g_v1 (t := 12) (u := (.ref (.bx 3) 0 [1] (Enc.enc (b_2.2 : List (Int × Int))))) (Enc.enc (b_2.2 : List (Int × Int))) rfl rfl rfl ?_
    obtain ⟨r_3, E_r_3, h⟩ := bind_some h
    refine g_call (m := 0) (al := false) (r := (Enc.enc (r_3 : Bool))) [Enc.enc (a_1.2 : (List (Int × Int))), Enc.enc (b_2.2 : (List (Int × Int)))] (ta_cons (v := (Enc.enc (a_1.2 : List (Int × Int)))) rfl rfl (Enc.erase_enc (a_1.2 : (List (Int × Int)))) (ta_cons (v := (Enc.enc (b_2.2 : List (Int × Int)))) rfl rfl (Enc.erase_enc (b_2.2 : (List (Int × Int)))) ta_nil)) (H.c53 _ _ _ E_r_3) H.g53 rfl rfl rfl rfl ?_
    refine g_v1 (t := 14) (u := (.bool r_3)) (.bool (!r_3)) rfl rfl rfl ?_
    refine g_end ?_
    refine e_end ?_
    refine renew [(4, (.bool false)), (15, (.bool (!r_3)))] ⟨h4, rfl⟩ ?_
    rintro s ⟨h4, h15⟩
    refine .nsq ?_
    refine run_cond (t := (!r_3)) h15 h (fun h => ?_) (fun h => ?_)
    · refine .seq ?_
      refine run_reg ?_
      refine e_end ?_
      refine g_v0 (.bool false) rfl rfl ?_
      refine g_end ?_
      refine e_end ?_
      refine renew [(4, (.bool false))] rfl ?_
      rintro s h4
      refine .nsq ?_
      refine .ret ?_
      have hr := Option.some.inj h
      subst hr
      exact rrA (res_tmp h4) rfl
    · refine .skip ?_
      refine .nsq ?_
      refine .seq ?_
      refine run_reg ?_
      refine e_end ?_
      refine g_v0 (.bool true) rfl rfl ?_
      refine g_end ?_
      refine e_end ?_
      refine renew [(4, (.bool true))] rfl ?_
      rintro s h4
      refine .nsq ?_
      refine .ret ?_
      have hr := Option.some.inj h
      subst hr
      exact rrA (res_tmp h4) rfl
end
def e20 (F : Nat) : Ent := ⟨20, dn2 (w_eqGraph F) (fun (r : Bool) => (Enc.enc (r : Bool))), 0, false⟩
theorem o20 {D : Den} {σ : Sig} {F : Nat} (hF : Fits2 Try.prog D σ) (H : H20 D σ F) : (e20 F).Ok Try.prog := by
  refine ⟨fun args r h => ?_, ⟨Try.f20, Try.func20, rfl, rfl⟩⟩
  obtain ⟨x0, x1, y, rfl, hy, rfl⟩ := dn2_open h
  exact contract_run hF (by kernel_rfl) Try.func20 rfl c20 (show 2 ≤ Try.f20.ntmps by decide) (t20 H x0 x1 _ ⟨rfl, rfl⟩ hy)
/- loop.example/g01109/laws.FnExactStayersWin -/
def A6_1 : AC := (AC.cond (O.t 38) (AC.seq (AC.reg [] [(I.mk (some 4) none false (X.v (A.mov (O.k (V.bool false)))))] []) AC.ret) AC.skip)
def A6_3 : AC := (AC.cond (O.t 43) (AC.seq (AC.reg [] [(I.mk (some 4) none false (X.v (A.mov (O.k (V.bool false)))))] []) AC.ret) AC.skip)
def A6_4 : AC := (AC.seq (AC.reg [] [(I.mk (some 4) none false (X.v (A.mov (O.k (V.bool true)))))] []) AC.ret)
def A6_2 : AC := (AC.seq (AC.seq (AC.reg [] [(I.mk (some 39) none false (X.v (A.load (Sh.ag [Sh.s, Sh.p]) (O.t 8)))), (I.mk (some 40) none false (X.v (A.load (Sh.ag [Sh.s, Sh.p]) (O.t 2)))), (I.mk (some 41) none false (X.call (O.k (V.fn 17 [] [])) [(O.t 40)])), (I.mk (some 42) none false (X.call (O.k (V.fn 20 [] [])) [(O.t 39), (O.t 41)])), (I.mk (some 43) none false (X.v (A.un UnOp.not (O.t 42))))] []) A6_3) A6_4)
def A6_8 : AC := (AC.cond (O.t 15) (AC.seq (AC.reg [] [(I.mk (some 4) none false (X.v (A.mov (O.k (V.bool true)))))] []) AC.ret) AC.skip)
def A6_12 : AC := (AC.seq (AC.seq (AC.reg [] [(I.mk (some 31) none false (X.v (A.mov (O.t 9)))), (I.mk (some 32) none false (X.v (A.mov (O.t 6)))), (I.mk (some 33) none false (X.v (A.beq true (O.t 31) (O.t 32)))), (I.mk (some 34) none false (X.v (A.mov (O.t 33)))), (I.mk (some 35) (some (34, false)) false (X.v (A.mov (O.t 10)))), (I.mk (some 36) (some (34, false)) false (X.v (A.mov (O.t 7)))), (I.mk (some 37) (some (34, false)) false (X.v (A.beq true (O.t 35) (O.t 36)))), (I.mk (some 38) none false (X.v (A.pick (O.t 34) (O.k (V.bool true)) (O.t 37))))] []) A6_1) A6_2)
def A6_11 : AC := (AC.seq (AC.reg [] [(I.mk (some 26) none false (X.v (A.load (Sh.ag [Sh.s, Sh.p]) (O.t 8)))), (I.mk (some 27) none false (X.v (A.mov (O.t 1)))), (I.mk (some 28) none false (X.call (O.k (V.fn 27 [] [])) [(O.t 26), (O.t 27)])), (I.mk (some 25) none false (X.v (A.mov (O.t 28)))), (I.mk (some 29) none false (X.v (A.extS (O.t 25) 0))), (I.mk (some 30) none false (X.v (A.extS (O.t 25) 1))), (I.mk (some 9) none false (X.v (A.mov (O.t 29)))), (I.mk (some 10) none false (X.v (A.mov (O.t 30))))] []) A6_12)
def A6_10 : AC := (AC.seq (AC.reg [.clr [8]] [(I.mk (some 23) none false (X.v (A.load (Sh.ag [Sh.s, Sh.p]) (O.t 2)))), (I.mk (some 24) none false (X.call (O.k (V.fn 17 [] [])) [(O.t 23)])), (I.mk (some 8) none false (X.alloc (V.agg [(V.int IntKind.i64 (Int.ofNat 0)), (V.sl Tok.nl (Sh.ag [Sh.s, Sh.s]) 0 [])]))), (I.mk none none false (X.store (Sh.ag [Sh.s, Sh.p]) (O.t 8) (O.t 24)))] []) A6_11)
def A6_9 : AC := (AC.seq (AC.reg [] [(I.mk (some 17) none false (X.v (A.load (Sh.ag [Sh.s, Sh.p]) (O.t 2)))), (I.mk (some 18) none false (X.call (O.k (V.fn 17 [] [])) [(O.t 17)])), (I.mk (some 19) none false (X.v (A.mov (O.t 1)))), (I.mk (some 20) none false (X.call (O.k (V.fn 26 [] [])) [(O.t 18), (O.t 19)])), (I.mk (some 16) none false (X.v (A.mov (O.t 20)))), (I.mk (some 21) none false (X.v (A.extS (O.t 16) 0))), (I.mk (some 22) none false (X.v (A.extS (O.t 16) 1))), (I.mk (some 6) none false (X.v (A.mov (O.t 21)))), (I.mk (some 7) none false (X.v (A.mov (O.t 22))))] []) A6_10)
def A6_7 : AC := (AC.seq (AC.seq (AC.reg [] [(I.mk (some 14) none false (X.v (A.mov (O.t 5)))), (I.mk (some 15) none false (X.v (A.bin BinOp.lss (O.t 14) (O.k (V.int IntKind.i64 (Int.ofNat 0))))))] []) A6_8) A6_9)
def A6_6 : AC := (AC.seq (AC.reg [] [(I.mk (some 11) none false (X.v (A.load (Sh.ag [Sh.s, Sh.p]) (O.t 2)))), (I.mk (some 12) none false (X.v (A.mov (O.t 5)))), (I.mk (some 13) none false (X.call (O.k (V.fn 15 [] [])) [(O.t 11), (O.t 12)])), (I.mk (some 5) none false (X.v (A.mov (O.t 13))))] []) A6_7)
def A6_5 : AC := (AC.seq (AC.reg [] [(I.mk (some 5) none false (X.v (A.mov (O.k (V.int IntKind.i64 (Int.ofNat 1048576))))))] []) A6_6)
def A6 : AC := (AC.seq (AC.reg [.clr [2]] [(I.mk (some 2) none false (X.box (O.t 0))), (I.mk (some 4) none false (X.v (A.mov (O.k (V.bool false)))))] []) A6_5)
def an6 : List An := [{ id := 0, pre := [.clr [2]], ep := [], lin := [], sp := [] }, { id := 6, pre := [.clr [8]], ep := [], lin := [], sp := [] }]
theorem c6 : cC Try.prog Try.f6.ntmps an6 (Try.f6.body.getD .skip) = some A6 := by kernel_rfl
structure H6 (D : Den) (σ : Sig) (F : Nat) : Prop where
  c15 : ∀ x0 x1 r, w_szGraph F x0 x1 = some r → D 15 [Enc.enc x0, Enc.enc x1] = some (Enc.enc (r : Int))
  g15 : σ 15 = some (0, false)
  c17 : ∀ x0 r, w_toGraph F x0 = some r → D 17 [Enc.enc x0] = some (Enc.enc (r : (Int × (List (Int × Int)))))
  g17 : σ 17 = some (0, true)
  c26 : ∀ x0 x1 r, s_StayersWin F x0 x1 = some r → D 26 [Enc.enc x0, Enc.enc x1] = some (.tup [Enc.enc (r.1 : Bool), Enc.enc (r.2 : Bool)])
  g26 : σ 26 = some (0, false)
  c27 : ∀ x0 x1 r, i_StayersWin F x0 x1 = some r → D 27 [Enc.enc x0, Enc.enc x1] = some (.tup [Enc.enc (r.1 : Bool), Enc.enc (r.2 : Bool)])
  g27 : σ 27 = some (0, false)
  c20 : ∀ x0 x1 r, w_eqGraph F x0 x1 = some r → D 20 [Enc.enc x0, Enc.enc x1] = some (Enc.enc (r : Bool))
  g20 : σ 20 = some (0, false)
abbrev R6 (r : Bool) : (Nat → V) → Prop := RR Try.prog [.tmp 4] 0 false (Enc.enc (r : Bool))
section
variable {D : Den} {σ : Sig} {F : Nat} {r : Bool}
def w_FnExactStayersWin_j1 (F : Nat) (aG_1 : (Int × (List (Int × Int)))) (r_6 : (Int × (List (Int × Int))))  (t38_8 : Bool) : Option Bool :=
  bif t38_8 then
    some false
  else
    (w_toGraph F aG_1).bind fun r_9 =>
    (w_eqGraph F r_6 r_9).bind fun r_10 =>
    bif (!r_10) then
      some false
    else
      some true
theorem t_f6_j1 (H : H6 D σ F) (aG_1 : (Int × (List (Int × Int)))) (r_6 : (Int × (List (Int × Int))))  (t38_8 : Bool) (s : Nat → V) (hs : Facts [(2, (.ref (.bx 2) 0 [] (.agg [(.int .i64 aG_1.1), (Enc.enc (aG_1.2 : List (Int × Int)))]))), (4, (.bool false)), (8, (.ref (.bx 8) 0 [] (.agg [(.int .i64 r_6.1), (Enc.enc (r_6.2 : List (Int × Int)))]))), (38, (.bool t38_8))] s) (h : w_FnExactStayersWin_j1 F aG_1 r_6  t38_8 = some r) : Run D σ (R6 r) (.nrm [.sq A6_1, .sq A6_2]) s := by
  unfold w_FnExactStayersWin_j1 at h
  obtain ⟨h2, h4, h8, h38⟩ := hs
  refine .nsq ?_
  refine run_cond (t := t38_8) h38 h (fun h => ?_) (fun h => ?_)
  · refine .seq ?_
    refine run_reg ?_
    refine e_end ?_
    refine g_v0 (.bool false) rfl rfl ?_
    refine g_end ?_
    refine e_end ?_
    refine renew [(2, (.ref (.bx 2) 0 [] (.agg [(.int .i64 aG_1.1), (Enc.enc (aG_1.2 : List (Int × Int)))]))), (4, (.bool false)), (8, (.ref (.bx 8) 0 [] (.agg [(.int .i64 r_6.1), (Enc.enc (r_6.2 : List (Int × Int)))])))] ⟨h2, rfl, h8⟩ ?_
    rintro s ⟨h2, h4, h8⟩
    refine .nsq ?_
    refine .ret ?_
    have hr := Option.some.inj h
    subst hr
    exact rrA (res_tmp h4) rfl
  · refine .skip ?_
    refine .nsq ?_
    refine .seq ?_
    refine .seq ?_
    refine run_reg ?_
    refine e_end ?_
    refine g_v1 (t := 8) (u := (.ref (.bx 8) 0 [] (.agg [(.int .i64 r_6.1), (Enc.enc (r_6.2 : List (Int × Int)))]))) (.agg [(.int .i64 r_6.1), (Enc.enc (r_6.2 : List (Int × Int)))]) h8 rfl rfl ?_
    refine g_v1 (t := 2) (u := (.ref (.bx 2) 0 [] (.agg [(.int .i64 aG_1.1), (Enc.enc (aG_1.2 : List (Int × Int)))]))) (.agg [(.int .i64 aG_1.1), (Enc.enc (aG_1.2 : List (Int × Int)))]) h2 rfl rfl ?_
    obtain ⟨r_9, E_r_9, h⟩ := bind_some h
    refine g_call (m := 0) (al := true) (r := (Enc.enc (r_9 : (Int × (List (Int × Int)))))) [Enc.enc (aG_1 : (Int × (List (Int × Int))))] (ta_cons (v := (.agg [(.int .i64 aG_1.1), (Enc.enc (aG_1.2 : List (Int × Int)))])) rfl rfl (Enc.erase_enc (aG_1 : (Int × (List (Int × Int))))) ta_nil) (H.c17 _ _ E_r_9) H.g17 (hal_of (ht_cons (v := (.agg [(.int .i64 aG_1.1), (Enc.enc (aG_1.2 : List (Int × Int)))])) rfl rfl rfl ht_nil)) rfl rfl rfl ?_
    obtain ⟨r_10, E_r_10, h⟩ := bind_some h
    refine g_call (m := 0) (al := false) (r := (Enc.enc (r_10 : Bool))) [Enc.enc (r_6 : (Int × (List (Int × Int)))), Enc.enc (r_9 : (Int × (List (Int × Int))))] (ta_cons (v := (.agg [(.int .i64 r_6.1), (Enc.enc (r_6.2 : List (Int × Int)))])) rfl rfl (Enc.erase_enc (r_6 : (Int × (List (Int × Int))))) (ta_cons (v := (.agg [(.int .i64 r_9.1), (Enc.enc (r_9.2 : List (Int × Int)))])) rfl rfl (Enc.erase_enc (r_9 : (Int × (List (Int × Int))))) ta_nil)) (H.c20 _ _ _ E_r_10) H.g20 rfl rfl rfl rfl ?_
    refine g_v1 (t := 42) (u := (.bool r_10)) (.bool (!r_10)) rfl rfl rfl ?_
    refine g_end ?_
    refine e_end ?_
    refine renew [(4, (.bool false)), (43, (.bool (!r_10)))] ⟨h4, rfl⟩ ?_
    rintro s ⟨h4, h43⟩
    refine .nsq ?_
    refine run_cond (t := (!r_10)) h43 h (fun h => ?_) (fun h => ?_)
    · refine .seq ?_
      refine run_reg ?_
      refine e_end ?_
      refine g_v0 (.bool false) rfl rfl ?_
      refine g_end ?_
      refine e_end ?_
      refine renew [(4, (.bool false))] rfl ?_
      rintro s h4
      refine .nsq ?_
      refine .ret ?_
      have hr := Option.some.inj h
      subst hr
      exact rrA (res_tmp h4) rfl
    · refine .skip ?_
      refine .nsq ?_
      refine .seq ?_
      refine run_reg ?_
      refine e_end ?_
      refine g_v0 (.bool true) rfl rfl ?_
      refine g_end ?_
      refine e_end ?_
      refine renew [(4, (.bool true))] rfl ?_
      rintro s h4
      refine .nsq ?_
      refine .ret ?_
      have hr := Option.some.inj h
      subst hr
      exact rrA (res_tmp h4) rfl
def w_FnExactStayersWin (F : Nat) (aG_1 : (Int × (List (Int × Int)))) (aK_2 : Int) : Option Bool :=
  (w_szGraph F aG_1 1048576).bind fun r_3 =>
  bif decide (r_3 < 0) then
    some true
  else
    (w_toGraph F aG_1).bind fun r_4 =>
    (s_StayersWin F r_4 aK_2).bind fun r_5 =>
    (w_toGraph F aG_1).bind fun r_6 =>
    (i_StayersWin F r_6 aK_2).bind fun r_7 =>
    bif (r_7.1 != r_5.1) then
      w_FnExactStayersWin_j1 F aG_1 r_6 true
    else
      w_FnExactStayersWin_j1 F aG_1 r_6 (r_7.2 != r_5.2)
theorem t6 (H : H6 D σ F) (aG_1 : (Int × (List (Int × Int)))) (aK_2 : Int) (s : Nat → V) (hs : Facts [(0, (.agg [(.int .i64 aG_1.1), (Enc.enc (aG_1.2 : List (Int × Int)))])), (1, (.int .i64 aK_2))] s) (h : w_FnExactStayersWin F aG_1 aK_2 = some r) : Run D σ (R6 r) (.run A6 []) s := by
  unfold w_FnExactStayersWin at h
  obtain ⟨h0, h1⟩ := hs
  refine .seq ?_
  refine run_reg ?_
  refine e_clr ?_
  refine e_end ?_
  refine g_box (.agg [(.int .i64 aG_1.1), (Enc.enc (aG_1.2 : List (Int × Int)))]) (rd_of (keep_clear (s := s) (pk := [2]) h0 rfl (map_agg (maps_cons rfl (maps_cons (Enc.map_enc _ (aG_1.2 : List (Int × Int))) maps_nil)))) rfl) (gone_clear (s := s) (pk := [2]) (t := 2) rfl) rfl ?_
  refine g_v0 (.bool false) rfl rfl ?_
  refine g_end ?_
  refine e_end ?_
  refine renew [(1, (.int .i64 aK_2)), (2, (.ref (.bx 2) 0 [] (.agg [(.int .i64 aG_1.1), (Enc.enc (aG_1.2 : List (Int × Int)))]))), (4, (.bool false))] ⟨(keep_clear (s := s) (pk := [2]) h1 rfl rfl), rfl, rfl⟩ ?_
  rintro s ⟨h1, h2, h4⟩
  refine .nsq ?_
  refine .seq ?_
  refine run_reg ?_
  refine e_end ?_
  refine g_v0 (.int .i64 1048576) rfl rfl ?_
  refine g_end ?_
  refine e_end ?_
  refine renew [(1, (.int .i64 aK_2)), (2, (.ref (.bx 2) 0 [] (.agg [(.int .i64 aG_1.1), (Enc.enc (aG_1.2 : List (Int × Int)))]))), (4, (.bool false)), (5, (.int .i64 1048576))] ⟨h1, h2, h4, rfl⟩ ?_
  rintro s ⟨h1, h2, h4, h5⟩
  refine .nsq ?_
  refine .seq ?_
  refine run_reg ?_
  refine e_end ?_
  refine g_v1 (t := 2) (u := (.ref (.bx 2) 0 [] (.agg [(.int .i64 aG_1.1), (Enc.enc (aG_1.2 : List (Int × Int)))]))) (.agg [(.int .i64 aG_1.1), (Enc.enc (aG_1.2 : List (Int × Int)))]) h2 rfl rfl ?_
  refine g_v1 (t := 5) (u := (.int .i64 1048576)) (.int .i64 1048576) h5 rfl rfl ?_
  obtain ⟨r_3, E_r_3, h⟩ := bind_some h
  refine g_call (m := 0) (al := false) (r := (Enc.enc (r_3 : Int))) [Enc.enc (aG_1 : (Int × (List (Int × Int)))), Enc.enc (1048576 : Int)] (ta_cons (v := (.agg [(.int .i64 aG_1.1), (Enc.enc (aG_1.2 : List (Int × Int)))])) rfl rfl (Enc.erase_enc (aG_1 : (Int × (List (Int × Int))))) (ta_cons (v := (.int .i64 1048576)) rfl rfl rfl ta_nil)) (H.c15 _ _ _ E_r_3) H.g15 rfl rfl rfl rfl ?_
  refine g_v1 (t := 13) (u := (.int .i64 r_3)) (.int .i64 r_3) rfl rfl rfl ?_
  refine g_end ?_
  refine e_end ?_
  refine renew [(1, (.int .i64 aK_2)), (2, (.ref (.bx 2) 0 [] (.agg [(.int .i64 aG_1.1), (Enc.enc (aG_1.2 : List (Int × Int)))]))), (4, (.bool false)), (5, (.int .i64 r_3))] ⟨h1, h2, h4, rfl⟩ ?_
  rintro s ⟨h1, h2, h4, h5⟩
  refine .nsq ?_
  refine .seq ?_
  refine .seq ?_
  refine run_reg ?_
  refine e_end ?_
  refine g_v1 (t := 5) (u := (.int .i64 r_3)) (.int .i64 r_3) h5 rfl rfl ?_
  refine g_v1 (t := 14) (u := (.int .i64 r_3)) (.bool (decide (r_3 < 0))) rfl rfl rfl ?_
  refine g_end ?_
  refine e_end ?_
  refine renew [(1, (.int .i64 aK_2)), (2, (.ref (.bx 2) 0 [] (.agg [(.int .i64 aG_1.1), (Enc.enc (aG_1.2 : List (Int × Int)))]))), (4, (.bool false)), (15, (.bool (decide (r_3 < 0))))] ⟨h1, h2, h4, rfl⟩ ?_
  rintro s ⟨h1, h2, h4, h15⟩
  refine .nsq ?_
  refine run_cond (t := decide (r_3 < 0)) h15 h (fun h => ?_) (fun h => ?_)
  · refine .seq ?_
    refine run_reg ?_
    refine e_end ?_
    refine g_v0 (.bool true) rfl rfl ?_
    refine g_end ?_
    refine e_end ?_
    refine renew [(1, (.int .i64 aK_2)), (2, (.ref (.bx 2) 0 [] (.agg [(.int .i64 aG_1.1), (Enc.enc (aG_1.2 : List (Int × Int)))]))), (4, (.bool true))] ⟨h1, h2, rfl⟩ ?_
    rintro s ⟨h1, h2, h4⟩
    refine .nsq ?_
    refine .ret ?_
    have hr := Option.some.inj h
    subst hr
    exact rrA (res_tmp h4) rfl
  · refine .skip ?_
    refine .nsq ?_
    refine .seq ?_
    refine run_reg ?_
    refine e_end ?_
    refine g_v1 (t := 2) (u := (.ref (.bx 2) 0 [] (.agg [(.int .i64 aG_1.1), (Enc.enc (aG_1.2 : List (Int × Int)))]))) (.agg [(.int .i64 aG_1.1), (Enc.enc (aG_1.2 : List (Int × Int)))]) h2 rfl rfl ?_
    obtain ⟨r_4, E_r_4, h⟩ := bind_some h
    refine g_call (m := 0) (al := true) (r := (Enc.enc (r_4 : (Int × (List (Int × Int)))))) [Enc.enc (aG_1 : (Int × (List (Int × Int))))] (ta_cons (v := (.agg [(.int .i64 aG_1.1), (Enc.enc (aG_1.2 : List (Int × Int)))])) rfl rfl (Enc.erase_enc (aG_1 : (Int × (List (Int × Int))))) ta_nil) (H.c17 _ _ E_r_4) H.g17 (hal_of (ht_cons (v := (.agg [(.int .i64 aG_1.1), (Enc.enc (aG_1.2 : List (Int × Int)))])) rfl rfl rfl ht_nil)) rfl rfl rfl ?_
    refine g_v1 (t := 1) (u := (.int .i64 aK_2)) (.int .i64 aK_2) h1 rfl rfl ?_
    obtain ⟨r_5, E_r_5, h⟩ := bind_some h
    refine g_call (m := 0) (al := false) (r := (.tup [Enc.enc (r_5.1 : Bool), Enc.enc (r_5.2 : Bool)])) [Enc.enc (r_4 : (Int × (List (Int × Int)))), Enc.enc (aK_2 : Int)] (ta_cons (v := (.agg [(.int .i64 r_4.1), (Enc.enc (r_4.2 : List (Int × Int)))])) rfl rfl (Enc.erase_enc (r_4 : (Int × (List (Int × Int))))) (ta_cons (v := (.int .i64 aK_2)) rfl rfl rfl ta_nil)) (H.c26 _ _ _ E_r_5) H.g26 rfl rfl rfl rfl ?_
    refine g_v1 (t := 20) (u := (.tup [(.bool r_5.1), (.bool r_5.2)])) (.tup [(.bool r_5.1), (.bool r_5.2)]) rfl rfl rfl ?_
    refine g_v1 (t := 16) (u := (.tup [(.bool r_5.1), (.bool r_5.2)])) (.bool r_5.1) rfl rfl rfl ?_
    refine g_v1 (t := 16) (u := (.tup [(.bool r_5.1), (.bool r_5.2)])) (.bool r_5.2) rfl rfl rfl ?_
    refine g_v1 (t := 21) (u := (.bool r_5.1)) (.bool r_5.1) rfl rfl rfl ?_
    refine g_v1 (t := 22) (u := (.bool r_5.2)) (.bool r_5.2) rfl rfl rfl ?_
    refine g_end ?_
    refine e_end ?_
    refine renew [(1, (.int .i64 aK_2)), (2, (.ref (.bx 2) 0 [] (.agg [(.int .i64 aG_1.1), (Enc.enc (aG_1.2 : List (Int × Int)))]))), (4, (.bool false)), (6, (.bool r_5.1)), (7, (.bool r_5.2))] ⟨h1, h2, h4, rfl, rfl⟩ ?_
    rintro s ⟨h1, h2, h4, h6, h7⟩
    refine .nsq ?_
    refine .seq ?_
    refine run_reg ?_
    refine e_clr ?_
    refine e_end ?_
    refine g_v1 (t := 2) (u := (.ref (.bx 2) 0 [] (.agg [(.int .i64 aG_1.1), (Enc.enc (aG_1.2 : List (Int × Int)))]))) (.agg [(.int .i64 aG_1.1), (Enc.enc (aG_1.2 : List (Int × Int)))]) (keep_clear (s := s) (pk := [8]) h2 rfl (map_bx rfl (map_agg (maps_cons rfl (maps_cons (Enc.map_enc _ (aG_1.2 : List (Int × Int))) maps_nil))))) rfl rfl ?_
    obtain ⟨r_6, E_r_6, h⟩ := bind_some h
    refine g_call (m := 0) (al := true) (r := (Enc.enc (r_6 : (Int × (List (Int × Int)))))) [Enc.enc (aG_1 : (Int × (List (Int × Int))))] (ta_cons (v := (.agg [(.int .i64 aG_1.1), (Enc.enc (aG_1.2 : List (Int × Int)))])) rfl rfl (Enc.erase_enc (aG_1 : (Int × (List (Int × Int))))) ta_nil) (H.c17 _ _ E_r_6) H.g17 (hal_of (ht_cons (v := (.agg [(.int .i64 aG_1.1), (Enc.enc (aG_1.2 : List (Int × Int)))])) rfl rfl rfl ht_nil)) rfl rfl rfl ?_
    refine g_alloc (gone_clear (s := s) (pk := [8]) (t := 8) rfl) ?_
    refine g_store (.agg [(.int .i64 r_6.1), (Enc.enc (r_6.2 : List (Int × Int)))]) (rd_of rfl rfl) (rd_of rfl rfl) (by refine ⟨by decide, by decide, rfl, rfl, rfl, ?_⟩; first | rfl | simp [V.toks, V.tokss, Enc.toks_enc]) ?_
    refine g_end ?_
    refine e_end ?_
    refine renew [(1, (.int .i64 aK_2)), (2, (.ref (.bx 2) 0 [] (.agg [(.int .i64 aG_1.1), (Enc.enc (aG_1.2 : List (Int × Int)))]))), (4, (.bool false)), (6, (.bool r_5.1)), (7, (.bool r_5.2)), (8, (.ref (.bx 8) 0 [] (.agg [(.int .i64 r_6.1), (Enc.enc (r_6.2 : List (Int × Int)))])))] ⟨(keep_mut (keep_clear (s := s) (pk := [8]) h1 rfl rfl) rfl), (keep_mut (keep_clear (s := s) (pk := [8]) h2 rfl (map_bx rfl (map_agg (maps_cons rfl (maps_cons (Enc.map_enc _ (aG_1.2 : List (Int × Int))) maps_nil))))) (mut_ref_ne rfl rfl (mut_agg (muts_cons rfl (muts_cons (Enc.mut_enc _ _ _ _ (aG_1.2 : List (Int × Int))) rfl))))), (keep_mut (keep_clear (s := s) (pk := [8]) h4 rfl rfl) rfl), (keep_mut (keep_clear (s := s) (pk := [8]) h6 rfl rfl) rfl), (keep_mut (keep_clear (s := s) (pk := [8]) h7 rfl rfl) rfl), (keep_mut rfl rfl)⟩ ?_
    rintro s ⟨h1, h2, h4, h6, h7, h8⟩
    refine .nsq ?_
    refine .seq ?_
    refine run_reg ?_
    refine e_end ?_
    refine g_v1 (t := 8) (u := (.ref (.bx 8) 0 [] (.agg [(.int .i64 r_6.1), (Enc.enc (r_6.2 : List (Int × Int)))]))) (.agg [(.int .i64 r_6.1), (Enc.enc (r_6.2 : List (Int × Int)))]) h8 rfl rfl ?_
    refine g_v1 (t := 1) (u := (.int .i64 aK_2)) (.int .i64 aK_2) h1 rfl rfl ?_
    obtain ⟨r_7, E_r_7, h⟩ := bind_some h
    refine g_call (m := 0) (al := false) (r := (.tup [Enc.enc (r_7.1 : Bool), Enc.enc (r_7.2 : Bool)])) [Enc.enc (r_6 : (Int × (List (Int × Int)))), Enc.enc (aK_2 : Int)] (ta_cons (v := (.agg [(.int .i64 r_6.1), (Enc.enc (r_6.2 : List (Int × Int)))])) rfl rfl (Enc.erase_enc (r_6 : (Int × (List (Int × Int))))) (ta_cons (v := (.int .i64 aK_2)) rfl rfl rfl ta_nil)) (H.c27 _ _ _ E_r_7) H.g27 rfl rfl rfl rfl ?_
    refine g_v1 (t := 28) (u := (.tup [(.bool r_7.1), (.bool r_7.2)])) (.tup [(.bool r_7.1), (.bool r_7.2)]) rfl rfl rfl ?_
    refine g_v1 (t := 25) (u := (.tup [(.bool r_7.1), (.bool r_7.2)])) (.bool r_7.1) rfl rfl rfl ?_
    refine g_v1 (t := 25) (u := (.tup [(.bool r_7.1), (.bool r_7.2)])) (.bool r_7.2) rfl rfl rfl ?_
    refine g_v1 (t := 29) (u := (.bool r_7.1)) (.bool r_7.1) rfl rfl rfl ?_
    refine g_v1 (t := 30) (u := (.bool r_7.2)) (.bool r_7.2) rfl rfl rfl ?_
    refine g_end ?_
    refine e_end ?_
    refine renew [(2, (.ref (.bx 2) 0 [] (.agg [(.int .i64 aG_1.1), (Enc.enc (aG_1.2 : List (Int × Int)))]))), (4, (.bool false)), (6, (.bool r_5.1)), (7, (.bool r_5.2)), (8, (.ref (.bx 8) 0 [] (.agg [(.int .i64 r_6.1), (Enc.enc (r_6.2 : List (Int × Int)))]))), (9, (.bool r_7.1)), (10, (.bool r_7.2))] ⟨h2, h4, h6, h7, h8, rfl, rfl⟩ ?_
    rintro s ⟨h2, h4, h6, h7, h8, h9, h10⟩
    refine .nsq ?_
    refine .seq ?_
    refine .seq ?_
    refine run_reg ?_
    refine e_end ?_
    refine g_v1 (t := 9) (u := (.bool r_7.1)) (.bool r_7.1) h9 rfl rfl ?_
    refine g_v1 (t := 6) (u := (.bool r_5.1)) (.bool r_5.1) h6 rfl rfl ?_
    refine g_v2 (t1 := 31) (t2 := 32) (u1 := (.bool r_7.1)) (u2 := (.bool r_5.1)) (.bool (r_7.1 != r_5.1)) rfl rfl rfl rfl ?_
    refine g_v1 (t := 33) (u := (.bool (r_7.1 != r_5.1))) (.bool (r_7.1 != r_5.1)) rfl rfl rfl ?_
    refine split_on (c := (r_7.1 != r_5.1)) h (fun hg4 h => ?_) (fun hg4 h => ?_)
    · refine g_no (Eq.trans (b := .bool (r_7.1 != r_5.1)) rfl (congrArg V.bool hg4)) ?_
      refine g_no (Eq.trans (b := .bool (r_7.1 != r_5.1)) rfl (congrArg V.bool hg4)) ?_
      refine g_no (Eq.trans (b := .bool (r_7.1 != r_5.1)) rfl (congrArg V.bool hg4)) ?_
      refine g_v2 (t1 := 34) (t2 := 37) (u1 := (.bool true)) (u2 := (.tup [])) (.bool true) (Eq.trans (b := .bool (r_7.1 != r_5.1)) rfl (congrArg V.bool hg4)) rfl rfl rfl ?_
      refine g_end ?_
      refine e_end ?_
      refine renew [(2, (.ref (.bx 2) 0 [] (.agg [(.int .i64 aG_1.1), (Enc.enc (aG_1.2 : List (Int × Int)))]))), (4, (.bool false)), (8, (.ref (.bx 8) 0 [] (.agg [(.int .i64 r_6.1), (Enc.enc (r_6.2 : List (Int × Int)))]))), (38, (.bool true))] ⟨h2, h4, h8, rfl⟩ ?_
      rintro s ⟨h2, h4, h8, h38⟩
      exact t_f6_j1 H aG_1 r_6 true _ ⟨h2, h4, h8, h38⟩ h
    · refine g_yes (Eq.trans (b := .bool (r_7.1 != r_5.1)) rfl (congrArg V.bool hg4)) (g_v1 (t := 10) (u := (.bool r_7.2)) (.bool r_7.2) h10 rfl rfl ?_)
      refine g_yes (Eq.trans (b := .bool (r_7.1 != r_5.1)) rfl (congrArg V.bool hg4)) (g_v1 (t := 7) (u := (.bool r_5.2)) (.bool r_5.2) h7 rfl rfl ?_)
      refine g_yes (Eq.trans (b := .bool (r_7.1 != r_5.1)) rfl (congrArg V.bool hg4)) (g_v2 (t1 := 35) (t2 := 36) (u1 := (.bool r_7.2)) (u2 := (.bool r_5.2)) (.bool (r_7.2 != r_5.2)) rfl rfl rfl rfl ?_)
      refine g_v2 (t1 := 34) (t2 := 37) (u1 := (.bool false)) (u2 := (.bool (r_7.2 != r_5.2))) (.bool (r_7.2 != r_5.2)) (Eq.trans (b := .bool (r_7.1 != r_5.1)) rfl (congrArg V.bool hg4)) rfl rfl rfl ?_
      refine g_end ?_
      refine e_end ?_
      refine renew [(2, (.ref (.bx 2) 0 [] (.agg [(.int .i64 aG_1.1), (Enc.enc (aG_1.2 : List (Int × Int)))]))), (4, (.bool false)), (8, (.ref (.bx 8) 0 [] (.agg [(.int .i64 r_6.1), (Enc.enc (r_6.2 : List (Int × Int)))]))), (38, (.bool (r_7.2 != r_5.2)))] ⟨h2, h4, h8, rfl⟩ ?_
      rintro s ⟨h2, h4, h8, h38⟩
      exact t_f6_j1 H aG_1 r_6 (r_7.2 != r_5.2) _ ⟨h2, h4, h8, h38⟩ h
end
def e6 (F : Nat) : Ent := ⟨6, dn2 (w_FnExactStayersWin F) (fun (r : Bool) => (Enc.enc (r : Bool))), 0, false⟩
theorem o6 {D : Den} {σ : Sig} {F : Nat} (hF : Fits2 Try.prog D σ) (H : H6 D σ F) : (e6 F).Ok Try.prog := by
  refine ⟨fun args r h => ?_, ⟨Try.f6, Try.func6, rfl, rfl⟩⟩
  obtain ⟨x0, x1, y, rfl, hy, rfl⟩ := dn2_open h
  exact contract_run hF (by kernel_rfl) Try.func6 rfl c6 (show 2 ≤ Try.f6.ntmps by decide) (t6 H x0 x1 _ ⟨rfl, rfl⟩ hy)
end Go.Zq
