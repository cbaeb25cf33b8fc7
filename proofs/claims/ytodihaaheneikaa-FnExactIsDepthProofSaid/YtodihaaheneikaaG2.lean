/- Functions of the program as typed functions, and that the machine runs as they say (part 2). No further condition. -/
import Derived.Test.YtodihaaheneikaaK2
import Derived.Test.YtodihaaheneikaaProg
import Derived.Test.YtodihaaheneikaaChecked
import Derived.KernelRfl
import Derived.Test.YtodihaaheneikaaG1
set_option linter.unusedVariables false
set_option linter.unusedSimpArgs false
/- Functions of the program, as typed functions, and that the machine runs as they say. -/
namespace Go.Zq
open Go.Proofs
/- loop.example/g01109/spec.l1Put -/
def A110_1 : AC := (AC.cond (O.t 31) (AC.seq (AC.reg [] [(I.mk (some 32) none false (X.v (A.mov (O.t 0)))), (I.mk (some 4) none false (X.v (A.mov (O.t 32))))] []) AC.ret) AC.skip)
def A110_2 : AC := (AC.seq (AC.reg [.clr [33, 37, 39, 40, 44]] [(I.mk (some 33) none true (X.lit (V.int IntKind.i64 (Int.ofNat 0)) 0 [])), (I.mk (some 34) none false (X.v (A.mov (O.t 0)))), (I.mk (some 35) none false (X.v (A.mov (O.t 5)))), (I.mk (some 36) none false (X.v (A.slice (O.t 34) none (some (O.t 35)) 1))), (I.mk (some 37) none true (X.appS Sh.s (O.t 33) (O.t 36))), (I.mk (some 38) none false (X.v (A.mov (O.t 1)))), (I.mk (some 39) none false (X.lit (V.int IntKind.i64 (Int.ofNat 0)) 1 [(0, 0, (O.t 38))])), (I.mk (some 40) none true (X.appS Sh.s (O.t 37) (O.t 39))), (I.mk (some 41) none false (X.v (A.mov (O.t 0)))), (I.mk (some 42) none false (X.v (A.mov (O.t 5)))), (I.mk (some 43) none false (X.v (A.slice (O.t 41) (some (O.t 42)) none 1))), (I.mk (some 44) none false (X.appS Sh.s (O.t 40) (O.t 43))), (I.mk (some 4) none false (X.v (A.mov (O.t 44))))] [.home 44 4]) AC.ret)
def A110_4 : AC := (AC.cond (O.t 17) AC.skip (AC.exit 0))
def A110_5 : AC := (AC.block 1 (AC.reg [] [(I.mk (some 18) none false (X.v (A.mov (O.t 5)))), (I.mk (some 19) none false (X.v (A.bin BinOp.add (O.t 18) (O.k (V.int IntKind.i64 (Int.ofNat 1)))))), (I.mk (some 5) none false (X.v (A.mov (O.t 19))))] []))
def A110_3 : AC := (AC.seq (AC.seq (AC.reg [] [(I.mk (some 6) none false (X.v (A.mov (O.t 5)))), (I.mk (some 7) none false (X.v (A.mov (O.t 0)))), (I.mk (some 8) none false (X.v (A.len (O.t 7)))), (I.mk (some 9) none false (X.v (A.bin BinOp.lss (O.t 6) (O.t 8)))), (I.mk (some 10) none false (X.v (A.mov (O.t 9)))), (I.mk (some 11) (some (10, true)) false (X.v (A.mov (O.t 0)))), (I.mk (some 12) (some (10, true)) false (X.v (A.mov (O.t 5)))), (I.mk (some 13) (some (10, true)) false (X.v (A.idx (O.t 11) (O.t 12) 1))), (I.mk (some 14) (some (10, true)) false (X.v (A.load Sh.s (O.t 13)))), (I.mk (some 15) (some (10, true)) false (X.v (A.mov (O.t 1)))), (I.mk (some 16) (some (10, true)) false (X.v (A.bin BinOp.lss (O.t 14) (O.t 15)))), (I.mk (some 17) none false (X.v (A.pick (O.t 10) (O.t 16) (O.k (V.bool false)))))] []) A110_4) A110_5)
def A110_6 : AC := (AC.seq (AC.seq (AC.reg [] [(I.mk (some 20) none false (X.v (A.mov (O.t 5)))), (I.mk (some 21) none false (X.v (A.mov (O.t 0)))), (I.mk (some 22) none false (X.v (A.len (O.t 21)))), (I.mk (some 23) none false (X.v (A.bin BinOp.lss (O.t 20) (O.t 22)))), (I.mk (some 24) none false (X.v (A.mov (O.t 23)))), (I.mk (some 25) (some (24, true)) false (X.v (A.mov (O.t 0)))), (I.mk (some 26) (some (24, true)) false (X.v (A.mov (O.t 5)))), (I.mk (some 27) (some (24, true)) false (X.v (A.idx (O.t 25) (O.t 26) 1))), (I.mk (some 28) (some (24, true)) false (X.v (A.load Sh.s (O.t 27)))), (I.mk (some 29) (some (24, true)) false (X.v (A.mov (O.t 1)))), (I.mk (some 30) (some (24, true)) false (X.v (A.bin BinOp.eql (O.t 28) (O.t 29)))), (I.mk (some 31) none false (X.v (A.pick (O.t 24) (O.t 30) (O.k (V.bool false)))))] []) A110_1) A110_2)
def A110_8 : AC := (AC.seq (AC.block 0 (AC.loop A110_3)) A110_6)
def A110_7 : AC := (AC.seq (AC.reg [] [(I.mk (some 5) none false (X.v (A.mov (O.k (V.int IntKind.i64 (Int.ofNat 0))))))] []) A110_8)
def A110 : AC := (AC.seq (AC.reg [] [(I.mk (some 4) none false (X.v (A.mov (O.k (V.sl Tok.nl Sh.s 0 [])))))] []) A110_7)
def an110 : List An := [{ id := 6, pre := [.clr [33, 37, 39, 40, 44]], ep := [.home 44 4], lin := [0, 4, 7], sp := [4, 7, 11] }]
theorem c110 : cC Try.prog Try.f110.ntmps an110 (Try.f110.body.getD .skip) = some A110 := by kernel_rfl
structure H110 (D : Den) (σ : Sig) (F : Nat) : Prop where
  mk ::
abbrev R110 (r : (List Int)) : (Nat → V) → Prop := RR Try.prog [.tmp 4] 0 true (Enc.enc (r : (List Int)))
section
variable {D : Den} {σ : Sig} {F : Nat} {r : (List Int)}
def s_l1Put_j1 (F : Nat) (l_1 : (List Int)) (n_2 : Int) (k_6 : Int)  (t31_13 : Bool) : Option (List Int) :=
  bif t31_13 then
    some l_1
  else
    (sub l_1 0 k_6).bind fun sub_14 =>
    (appL [] sub_14).bind fun ap_15 =>
    (appL ap_15 [n_2]).bind fun ap_16 =>
    (sub l_1 k_6 (l_1.length : Int)).bind fun sub_17 =>
    (appL ap_16 sub_17).bind fun ap_18 =>
    some ap_18
theorem t_f110_j1 (H : H110 D σ F) (l_1 : (List Int)) (n_2 : Int) (k_6 : Int)  (t31_13 : Bool) (s : Nat → V) (hs : Facts [(0, (Enc.enc (l_1 : List Int))), (1, (.int .i64 n_2)), (4, (.sl .nl (Enc.shp Int) 0 [])), (5, (.int .i64 k_6)), (31, (.bool t31_13))] s) (h : s_l1Put_j1 F l_1 n_2 k_6  t31_13 = some r) : Run D σ (R110 r) (.nrm [.sq A110_1, .sq A110_2]) s := by
  unfold s_l1Put_j1 at h
  obtain ⟨h0, h1, h4, h5, h31⟩ := hs
  refine .nsq ?_
  refine run_cond (t := t31_13) h31 h (fun h => ?_) (fun h => ?_)
  · refine .seq ?_
    refine run_reg ?_
    refine e_end ?_
    refine g_v1 (t := 0) (u := (Enc.enc (l_1 : List Int))) (Enc.enc (l_1 : List Int)) h0 rfl rfl ?_
    refine g_v1 (t := 32) (u := (Enc.enc (l_1 : List Int))) (Enc.enc (l_1 : List Int)) rfl rfl rfl ?_
    refine g_end ?_
    refine e_end ?_
    refine renew [(0, (Enc.enc (l_1 : List Int))), (1, (.int .i64 n_2)), (4, (Enc.enc (l_1 : List Int))), (5, (.int .i64 k_6))] ⟨h0, h1, rfl, h5⟩ ?_
    rintro s ⟨h0, h1, h4, h5⟩
    refine .nsq ?_
    refine .ret ?_
    have hr := Option.some.inj h
    subst hr
    exact rrA (res_tmp h4) (fin_ret1 (fin_enc (x := (l_1 : (List Int)))))
  · refine .skip ?_
    refine .nsq ?_
    refine .seq ?_
    refine run_reg ?_
    refine e_clr ?_
    refine e_end ?_
    refine g_litLl [] [] trivial rfl rfl (gone_clear (s := s) (pk := [33, 37, 39, 40, 44]) (t := 33) rfl) ?_
    refine g_v1 (t := 0) (u := (Enc.enc (l_1 : List Int))) (Enc.enc (l_1 : List Int)) (keep_clear (s := s) (pk := [33, 37, 39, 40, 44]) h0 rfl (Enc.map_enc _ (l_1 : List Int))) rfl rfl ?_
    refine g_v1 (t := 5) (u := (.int .i64 k_6)) (.int .i64 k_6) (keep_clear (s := s) (pk := [33, 37, 39, 40, 44]) h5 rfl rfl) rfl rfl ?_
    obtain ⟨sub_14, E_sub_14, h⟩ := bind_some h
    refine g_v (Enc.enc (sub_14 : List Int)) (ev_slice (xs := l_1) rfl (optI_none) (optI_some rfl) E_sub_14 rfl) ?_
    obtain ⟨ap_15, E_ap_15, h⟩ := bind_some h
    refine g_appS (p := []) (xs := []) (ys := (sub_14 : List Int)) (t2 := .sh) (lo2 := 0) rfl rfl rfl (gone_clear (s := s) (pk := [33, 37, 39, 40, 44]) (t := 37) rfl) rfl E_ap_15 ?_
    refine g_v1 (t := 1) (u := (.int .i64 n_2)) (.int .i64 n_2) (keep_clear (s := s) (pk := [33, 37, 39, 40, 44]) h1 rfl rfl) rfl rfl ?_
    refine g_litL [(38, (.int .i64 n_2))] [Enc.enc (n_2 : Int)] rfl rfl rfl (gone_clear (s := s) (pk := [33, 37, 39, 40, 44]) (t := 39) rfl) ?_
    obtain ⟨ap_16, E_ap_16, h⟩ := bind_some h
    refine g_appS (p := []) (xs := ap_15) (ys := ([n_2] : List Int)) (t2 := (.at 39 [])) (lo2 := 0) rfl rfl rfl (gone_clear (s := s) (pk := [33, 37, 39, 40, 44]) (t := 40) rfl) rfl E_ap_16 ?_
    refine g_v1 (t := 0) (u := (Enc.enc (l_1 : List Int))) (Enc.enc (l_1 : List Int)) (keep_clear (s := s) (pk := [33, 37, 39, 40, 44]) h0 rfl (Enc.map_enc _ (l_1 : List Int))) rfl rfl ?_
    refine g_v1 (t := 5) (u := (.int .i64 k_6)) (.int .i64 k_6) (keep_clear (s := s) (pk := [33, 37, 39, 40, 44]) h5 rfl rfl) rfl rfl ?_
    obtain ⟨sub_17, E_sub_17, h⟩ := bind_some h
    refine g_v (Enc.enc (sub_17 : List Int)) (ev_slice (xs := l_1) rfl (optI_some rfl) (optI_none) E_sub_17 rfl) ?_
    obtain ⟨ap_18, E_ap_18, h⟩ := bind_some h
    refine g_appS (p := []) (xs := ap_16) (ys := (sub_17 : List Int)) (t2 := .sh) (lo2 := 0) rfl rfl rfl (gone_clear (s := s) (pk := [33, 37, 39, 40, 44]) (t := 44) rfl) rfl E_ap_18 ?_
    refine g_v1 (t := 44) (u := (encO (.at 44 []) (.of (ap_18 : List Int)))) (encO (.at 44 []) (.of (ap_18 : List Int))) rfl rfl rfl ?_
    refine g_end ?_
    refine e_home (r := 44) (x := 4) (v := (encO (.at 44 []) (.of (ap_18 : List Int)))) (by exact rfl) rfl (fun s_2 hg_2 => ?_)
    refine e_end ?_
    refine renew [(4, (encO (.at 4 []) (.of (ap_18 : List Int))))] (hg_2 4 (encO (.at 44 []) (.of (ap_18 : List Int))) (encO (.at 4 []) (.of (ap_18 : List Int))) rfl (map_encO (r := 44) (p := []) rfl rfl)) ?_
    rintro s h4
    refine .nsq ?_
    refine .ret ?_
    have hr := Option.some.inj h
    subst hr
    exact rrA (res_tmp h4) (fin_ret1 (fin_own (o := .of ap_18)))
def s_l1Put_j2 (F : Nat) (l_1 : (List Int)) (n_2 : Int) (k_6 : Int) (c1 : Int → Option (List Int)) (t17_11 : Bool) : Option (List Int) :=
  bif t17_11 then
    c1 (w64 (k_6 + 1))
  else
    bif decide (k_6 < (l_1.length : Int)) then
      (idx l_1 k_6).bind fun e_19 =>
      s_l1Put_j1 F l_1 n_2 k_6 (e_19 == n_2)
    else
      s_l1Put_j1 F l_1 n_2 k_6 false
theorem t_f110_j2 (H : H110 D σ F) (l_1 : (List Int)) (n_2 : Int) (k_6 : Int) (c1 : Int → Option (List Int)) (Hc1 : ∀ (k_6 : Int) (s : Nat → V), Facts [(0, (Enc.enc (l_1 : List Int))), (1, (.int .i64 n_2)), (4, (.sl .nl (Enc.shp Int) 0 [])), (5, (.int .i64 k_6))] s → c1 k_6 = some r → Run D σ (R110 r) (.run A110_3 [.lp A110_3, .bk 0, .sq A110_6]) s) (t17_11 : Bool) (s : Nat → V) (hs : Facts [(0, (Enc.enc (l_1 : List Int))), (1, (.int .i64 n_2)), (4, (.sl .nl (Enc.shp Int) 0 [])), (5, (.int .i64 k_6)), (17, (.bool t17_11))] s) (h : s_l1Put_j2 F l_1 n_2 k_6 c1 t17_11 = some r) : Run D σ (R110 r) (.nrm [.sq A110_4, .sq A110_5, .lp A110_3, .bk 0, .sq A110_6]) s := by
  unfold s_l1Put_j2 at h
  obtain ⟨h0, h1, h4, h5, h17⟩ := hs
  refine .nsq ?_
  refine run_cond (t := t17_11) h17 h (fun h => ?_) (fun h => ?_)
  · refine .skip ?_
    refine .nsq ?_
    refine .block ?_
    refine run_reg ?_
    refine e_end ?_
    refine g_v1 (t := 5) (u := (.int .i64 k_6)) (.int .i64 k_6) h5 rfl rfl ?_
    refine g_v1 (t := 18) (u := (.int .i64 k_6)) (.int .i64 (w64 (k_6 + 1))) rfl rfl rfl ?_
    refine g_v1 (t := 19) (u := (.int .i64 (w64 (k_6 + 1)))) (.int .i64 (w64 (k_6 + 1))) rfl rfl rfl ?_
    refine g_end ?_
    refine e_end ?_
    refine renew [(0, (Enc.enc (l_1 : List Int))), (1, (.int .i64 n_2)), (4, (.sl .nl (Enc.shp Int) 0 [])), (5, (.int .i64 (w64 (k_6 + 1))))] ⟨h0, h1, h4, rfl⟩ ?_
    rintro s ⟨h0, h1, h4, h5⟩
    refine .nbk ?_
    refine .nlp ?_
    exact Hc1 (w64 (k_6 + 1)) _ ⟨h0, h1, h4, h5⟩ h
  · refine .exit ?_
    refine .esq ?_
    refine .elp ?_
    refine .ebk ?_
    refine .nsq ?_
    refine .seq ?_
    refine .seq ?_
    refine run_reg ?_
    refine e_end ?_
    refine g_v1 (t := 5) (u := (.int .i64 k_6)) (.int .i64 k_6) h5 rfl rfl ?_
    refine g_v1 (t := 0) (u := (Enc.enc (l_1 : List Int))) (Enc.enc (l_1 : List Int)) h0 rfl rfl ?_
    refine g_v (.int .i64 (l_1.length : Int)) (ev_len (xs := l_1) rfl) ?_
    refine g_v2 (t1 := 20) (t2 := 22) (u1 := (.int .i64 k_6)) (u2 := (.int .i64 (l_1.length : Int))) (.bool (decide (k_6 < (l_1.length : Int)))) rfl rfl rfl rfl ?_
    refine g_v1 (t := 23) (u := (.bool (decide (k_6 < (l_1.length : Int))))) (.bool (decide (k_6 < (l_1.length : Int)))) rfl rfl rfl ?_
    refine split_on (c := decide (k_6 < (l_1.length : Int))) h (fun hg5 h => ?_) (fun hg5 h => ?_)
    · refine g_yes (Eq.trans (b := .bool (decide (k_6 < (l_1.length : Int)))) rfl (congrArg V.bool hg5)) (g_v1 (t := 0) (u := (Enc.enc (l_1 : List Int))) (Enc.enc (l_1 : List Int)) h0 rfl rfl ?_)
      refine g_yes (Eq.trans (b := .bool (decide (k_6 < (l_1.length : Int)))) rfl (congrArg V.bool hg5)) (g_v1 (t := 5) (u := (.int .i64 k_6)) (.int .i64 k_6) h5 rfl rfl ?_)
      obtain ⟨e_19, E_e_19, h⟩ := bind_some h
      refine g_yes (Eq.trans (b := .bool (decide (k_6 < (l_1.length : Int)))) rfl (congrArg V.bool hg5)) (g_v (.ref .sh 0 [] (.int .i64 e_19)) (ev_idx (t := .sh) (lo := 0) (xs := l_1) rfl rfl E_e_19 rfl rfl) ?_)
      refine g_yes (Eq.trans (b := .bool (decide (k_6 < (l_1.length : Int)))) rfl (congrArg V.bool hg5)) (g_v1 (t := 27) (u := (.ref .sh 0 [] (.int .i64 e_19))) (.int .i64 e_19) rfl rfl rfl ?_)
      refine g_yes (Eq.trans (b := .bool (decide (k_6 < (l_1.length : Int)))) rfl (congrArg V.bool hg5)) (g_v1 (t := 1) (u := (.int .i64 n_2)) (.int .i64 n_2) h1 rfl rfl ?_)
      refine g_yes (Eq.trans (b := .bool (decide (k_6 < (l_1.length : Int)))) rfl (congrArg V.bool hg5)) (g_v2 (t1 := 28) (t2 := 29) (u1 := (.int .i64 e_19)) (u2 := (.int .i64 n_2)) (.bool (e_19 == n_2)) rfl rfl rfl rfl ?_)
      refine g_v2 (t1 := 24) (t2 := 30) (u1 := (.bool true)) (u2 := (.bool (e_19 == n_2))) (.bool (e_19 == n_2)) (Eq.trans (b := .bool (decide (k_6 < (l_1.length : Int)))) rfl (congrArg V.bool hg5)) rfl rfl rfl ?_
      refine g_end ?_
      refine e_end ?_
      refine renew [(0, (Enc.enc (l_1 : List Int))), (1, (.int .i64 n_2)), (4, (.sl .nl (Enc.shp Int) 0 [])), (5, (.int .i64 k_6)), (31, (.bool (e_19 == n_2)))] ⟨h0, h1, h4, h5, rfl⟩ ?_
      rintro s ⟨h0, h1, h4, h5, h31⟩
      exact t_f110_j1 H l_1 n_2 k_6 (e_19 == n_2) _ ⟨h0, h1, h4, h5, h31⟩ h
    · refine g_no (Eq.trans (b := .bool (decide (k_6 < (l_1.length : Int)))) rfl (congrArg V.bool hg5)) ?_
      refine g_no (Eq.trans (b := .bool (decide (k_6 < (l_1.length : Int)))) rfl (congrArg V.bool hg5)) ?_
      refine g_no (Eq.trans (b := .bool (decide (k_6 < (l_1.length : Int)))) rfl (congrArg V.bool hg5)) ?_
      refine g_no (Eq.trans (b := .bool (decide (k_6 < (l_1.length : Int)))) rfl (congrArg V.bool hg5)) ?_
      refine g_no (Eq.trans (b := .bool (decide (k_6 < (l_1.length : Int)))) rfl (congrArg V.bool hg5)) ?_
      refine g_no (Eq.trans (b := .bool (decide (k_6 < (l_1.length : Int)))) rfl (congrArg V.bool hg5)) ?_
      refine g_v2 (t1 := 24) (t2 := 30) (u1 := (.bool false)) (u2 := (.tup [])) (.bool false) (Eq.trans (b := .bool (decide (k_6 < (l_1.length : Int)))) rfl (congrArg V.bool hg5)) rfl rfl rfl ?_
      refine g_end ?_
      refine e_end ?_
      refine renew [(0, (Enc.enc (l_1 : List Int))), (1, (.int .i64 n_2)), (4, (.sl .nl (Enc.shp Int) 0 [])), (5, (.int .i64 k_6)), (31, (.bool false))] ⟨h0, h1, h4, h5, rfl⟩ ?_
      rintro s ⟨h0, h1, h4, h5, h31⟩
      exact t_f110_j1 H l_1 n_2 k_6 false _ ⟨h0, h1, h4, h5, h31⟩ h
def s_l1Put_l1 (F : Nat) (l_1 : (List Int)) (n_2 : Int)  : Nat → Int → Option (List Int)
  | 0, _ => none
  | k + 1, k_6 =>
    bif decide (k_6 < (l_1.length : Int)) then
      (idx l_1 k_6).bind fun e_20 =>
      s_l1Put_j2 F l_1 n_2 k_6 (s_l1Put_l1 F l_1 n_2 k) (decide (e_20 < n_2))
    else
      s_l1Put_j2 F l_1 n_2 k_6 (s_l1Put_l1 F l_1 n_2 k) false
theorem t_f110_l1 (H : H110 D σ F) (l_1 : (List Int)) (n_2 : Int)  : ∀ (k : Nat) (k_6 : Int) (s : Nat → V), Facts [(0, (Enc.enc (l_1 : List Int))), (1, (.int .i64 n_2)), (4, (.sl .nl (Enc.shp Int) 0 [])), (5, (.int .i64 k_6))] s → s_l1Put_l1 F l_1 n_2 k k_6 = some r → Run D σ (R110 r) (.run A110_3 [.lp A110_3, .bk 0, .sq A110_6]) s := by
  intro k
  induction k with
  | zero => intro k_6 s _ h; exact nomatch (h : (none : Option _) = some r)
  | succ k ih =>
    intro k_6 s hs h
    rw [s_l1Put_l1] at h
    obtain ⟨h0, h1, h4, h5⟩ := hs
    refine .seq ?_
    refine .seq ?_
    refine run_reg ?_
    refine e_end ?_
    refine g_v1 (t := 5) (u := (.int .i64 k_6)) (.int .i64 k_6) h5 rfl rfl ?_
    refine g_v1 (t := 0) (u := (Enc.enc (l_1 : List Int))) (Enc.enc (l_1 : List Int)) h0 rfl rfl ?_
    refine g_v (.int .i64 (l_1.length : Int)) (ev_len (xs := l_1) rfl) ?_
    refine g_v2 (t1 := 6) (t2 := 8) (u1 := (.int .i64 k_6)) (u2 := (.int .i64 (l_1.length : Int))) (.bool (decide (k_6 < (l_1.length : Int)))) rfl rfl rfl rfl ?_
    refine g_v1 (t := 9) (u := (.bool (decide (k_6 < (l_1.length : Int))))) (.bool (decide (k_6 < (l_1.length : Int)))) rfl rfl rfl ?_
    refine split_on (c := decide (k_6 < (l_1.length : Int))) h (fun hg5 h => ?_) (fun hg5 h => ?_)
    · refine g_yes (Eq.trans (b := .bool (decide (k_6 < (l_1.length : Int)))) rfl (congrArg V.bool hg5)) (g_v1 (t := 0) (u := (Enc.enc (l_1 : List Int))) (Enc.enc (l_1 : List Int)) h0 rfl rfl ?_)
      refine g_yes (Eq.trans (b := .bool (decide (k_6 < (l_1.length : Int)))) rfl (congrArg V.bool hg5)) (g_v1 (t := 5) (u := (.int .i64 k_6)) (.int .i64 k_6) h5 rfl rfl ?_)
      obtain ⟨e_20, E_e_20, h⟩ := bind_some h
      refine g_yes (Eq.trans (b := .bool (decide (k_6 < (l_1.length : Int)))) rfl (congrArg V.bool hg5)) (g_v (.ref .sh 0 [] (.int .i64 e_20)) (ev_idx (t := .sh) (lo := 0) (xs := l_1) rfl rfl E_e_20 rfl rfl) ?_)
      refine g_yes (Eq.trans (b := .bool (decide (k_6 < (l_1.length : Int)))) rfl (congrArg V.bool hg5)) (g_v1 (t := 13) (u := (.ref .sh 0 [] (.int .i64 e_20))) (.int .i64 e_20) rfl rfl rfl ?_)
      refine g_yes (Eq.trans (b := .bool (decide (k_6 < (l_1.length : Int)))) rfl (congrArg V.bool hg5)) (g_v1 (t := 1) (u := (.int .i64 n_2)) (.int .i64 n_2) h1 rfl rfl ?_)
      refine g_yes (Eq.trans (b := .bool (decide (k_6 < (l_1.length : Int)))) rfl (congrArg V.bool hg5)) (g_v2 (t1 := 14) (t2 := 15) (u1 := (.int .i64 e_20)) (u2 := (.int .i64 n_2)) (.bool (decide (e_20 < n_2))) rfl rfl rfl rfl ?_)
      refine g_v2 (t1 := 10) (t2 := 16) (u1 := (.bool true)) (u2 := (.bool (decide (e_20 < n_2)))) (.bool (decide (e_20 < n_2))) (Eq.trans (b := .bool (decide (k_6 < (l_1.length : Int)))) rfl (congrArg V.bool hg5)) rfl rfl rfl ?_
      refine g_end ?_
      refine e_end ?_
      refine renew [(0, (Enc.enc (l_1 : List Int))), (1, (.int .i64 n_2)), (4, (.sl .nl (Enc.shp Int) 0 [])), (5, (.int .i64 k_6)), (17, (.bool (decide (e_20 < n_2))))] ⟨h0, h1, h4, h5, rfl⟩ ?_
      rintro s ⟨h0, h1, h4, h5, h17⟩
      exact t_f110_j2 H l_1 n_2 k_6 (s_l1Put_l1 F l_1 n_2 k) ih (decide (e_20 < n_2)) _ ⟨h0, h1, h4, h5, h17⟩ h
    · refine g_no (Eq.trans (b := .bool (decide (k_6 < (l_1.length : Int)))) rfl (congrArg V.bool hg5)) ?_
      refine g_no (Eq.trans (b := .bool (decide (k_6 < (l_1.length : Int)))) rfl (congrArg V.bool hg5)) ?_
      refine g_no (Eq.trans (b := .bool (decide (k_6 < (l_1.length : Int)))) rfl (congrArg V.bool hg5)) ?_
      refine g_no (Eq.trans (b := .bool (decide (k_6 < (l_1.length : Int)))) rfl (congrArg V.bool hg5)) ?_
      refine g_no (Eq.trans (b := .bool (decide (k_6 < (l_1.length : Int)))) rfl (congrArg V.bool hg5)) ?_
      refine g_no (Eq.trans (b := .bool (decide (k_6 < (l_1.length : Int)))) rfl (congrArg V.bool hg5)) ?_
      refine g_v2 (t1 := 10) (t2 := 16) (u1 := (.bool false)) (u2 := (.tup [])) (.bool false) (Eq.trans (b := .bool (decide (k_6 < (l_1.length : Int)))) rfl (congrArg V.bool hg5)) rfl rfl rfl ?_
      refine g_end ?_
      refine e_end ?_
      refine renew [(0, (Enc.enc (l_1 : List Int))), (1, (.int .i64 n_2)), (4, (.sl .nl (Enc.shp Int) 0 [])), (5, (.int .i64 k_6)), (17, (.bool false))] ⟨h0, h1, h4, h5, rfl⟩ ?_
      rintro s ⟨h0, h1, h4, h5, h17⟩
      exact t_f110_j2 H l_1 n_2 k_6 (s_l1Put_l1 F l_1 n_2 k) ih false _ ⟨h0, h1, h4, h5, h17⟩ h
def s_l1Put (F : Nat) (l_1 : (List Int)) (n_2 : Int) : Option (List Int) :=
  s_l1Put_l1 F l_1 n_2 F 0
theorem t110 (H : H110 D σ F) (l_1 : (List Int)) (n_2 : Int) (s : Nat → V) (hs : Facts [(0, (Enc.enc (l_1 : List Int))), (1, (.int .i64 n_2))] s) (h : s_l1Put F l_1 n_2 = some r) : Run D σ (R110 r) (.run A110 []) s := by
  unfold s_l1Put at h
  obtain ⟨h0, h1⟩ := hs
  refine .seq ?_
  refine run_reg ?_
  refine e_end ?_
  refine g_v0 (.sl .nl (Enc.shp Int) 0 []) rfl rfl ?_
  refine g_end ?_
  refine e_end ?_
  refine renew [(0, (Enc.enc (l_1 : List Int))), (1, (.int .i64 n_2)), (4, (.sl .nl (Enc.shp Int) 0 []))] ⟨h0, h1, rfl⟩ ?_
  rintro s ⟨h0, h1, h4⟩
  refine .nsq ?_
  refine .seq ?_
  refine run_reg ?_
  refine e_end ?_
  refine g_v0 (.int .i64 0) rfl rfl ?_
  refine g_end ?_
  refine e_end ?_
  refine renew [(0, (Enc.enc (l_1 : List Int))), (1, (.int .i64 n_2)), (4, (.sl .nl (Enc.shp Int) 0 [])), (5, (.int .i64 0))] ⟨h0, h1, h4, rfl⟩ ?_
  rintro s ⟨h0, h1, h4, h5⟩
  refine .nsq ?_
  refine .seq ?_
  refine .block ?_
  refine .loop ?_
  exact t_f110_l1 H l_1 n_2 F 0 _ ⟨h0, h1, h4, h5⟩ h
end
def e110 (F : Nat) : Ent := ⟨110, da (fun (x : ((List Int) × Int × Unit)) => s_l1Put F x.1 x.2.1) (fun (r : (List Int)) => (Enc.enc (r : (List Int)))), 0, true, selF []⟩
theorem p110 {F : Nat} {x0 : (List Int)} {x1 : Int} {r : (List Int)} (h : s_l1Put F x0 x1 = some r) : (e110 F).den [Enc.enc x0, Enc.enc x1] = some (Enc.enc (r : (List Int))) := da_put (f := fun (x : ((List Int) × Int × Unit)) => s_l1Put F x.1 x.2.1) (t := fun (r : (List Int)) => (Enc.enc (r : (List Int)))) (x0, x1, ()) h
theorem o110 {D : Den} {σ : Sig} {F : Nat} (hF : Fits2 Try.prog D σ) (H : H110 D σ F) : (e110 F).Ok Try.prog := by
  refine ⟨fun args r h => ?_, ⟨Try.f110, Try.func110, rfl, rfl⟩⟩
  obtain ⟨⟨x0, x1, _⟩, y, rfl, hy, rfl⟩ := da_open h
  exact contract_run hF (by kernel_rfl) Try.func110 rfl c110 (show 2 ≤ Try.f110.ntmps by decide) (t110 H x0 x1 _ ⟨rfl, rfl⟩ hy)
/- loop.example/g01109/spec.l2Reach -/
def A121_2 : AC := (AC.cond (O.t 16) AC.skip (AC.exit 0))
def A121_6 : AC := (AC.cond (O.t 22) AC.skip (AC.exit 2))
def A121_10 : AC := (AC.cond (O.t 37) AC.skip (AC.exit 4))
def A121_12 : AC := (AC.cond (O.t 49) (AC.reg [.frz 7] [(I.mk (some 50) none false (X.v (A.mov (O.t 7)))), (I.mk (some 51) none false (X.v (A.mov (O.t 1)))), (I.mk (some 52) none false (X.v (A.mov (O.t 9)))), (I.mk (some 53) none false (X.v (A.idx (O.t 51) (O.t 52) 1))), (I.mk (some 54) none false (X.v (A.load Sh.s (O.t 53)))), (I.mk (some 55) none false (X.call (O.k (V.fn 110 [] [])) [(O.t 50), (O.t 54)])), (I.mk (some 7) none false (X.v (A.mov (O.t 55))))] []) AC.skip)
def A121_13 : AC := (AC.reg [] [(I.mk (some 38) none false (X.v (A.mov (O.t 10)))), (I.mk (some 39) none false (X.v (A.bin BinOp.add (O.t 38) (O.k (V.int IntKind.i64 (Int.ofNat 1)))))), (I.mk (some 10) none false (X.v (A.mov (O.t 39))))] [])
def A121_11 : AC := (AC.seq (AC.block 5 (AC.seq (AC.reg [] [(I.mk (some 40) none false (X.v (A.load (Sh.ag [Sh.s, Sh.p]) (O.t 3)))), (I.mk (some 41) none false (X.v (A.mov (O.t 7)))), (I.mk (some 42) none false (X.v (A.mov (O.t 10)))), (I.mk (some 43) none false (X.v (A.idx (O.t 41) (O.t 42) 1))), (I.mk (some 44) none false (X.v (A.load Sh.s (O.t 43)))), (I.mk (some 45) none false (X.v (A.mov (O.t 1)))), (I.mk (some 46) none false (X.v (A.mov (O.t 9)))), (I.mk (some 47) none false (X.v (A.idx (O.t 45) (O.t 46) 1))), (I.mk (some 48) none false (X.v (A.load Sh.s (O.t 47)))), (I.mk (some 49) none false (X.call (O.k (V.fn 122 [] [])) [(O.t 40), (O.t 44), (O.t 48)]))] []) A121_12)) A121_13)
def A121_9 : AC := (AC.seq (AC.seq (AC.reg [] [(I.mk (some 25) none false (X.v (A.mov (O.t 10)))), (I.mk (some 26) none false (X.v (A.mov (O.t 7)))), (I.mk (some 27) none false (X.v (A.len (O.t 26)))), (I.mk (some 28) none false (X.v (A.bin BinOp.lss (O.t 25) (O.t 27)))), (I.mk (some 29) none false (X.v (A.mov (O.t 28)))), (I.mk (some 30) (some (29, true)) false (X.v (A.mov (O.t 7)))), (I.mk (some 31) (some (29, true)) false (X.v (A.mov (O.t 1)))), (I.mk (some 32) (some (29, true)) false (X.v (A.mov (O.t 9)))), (I.mk (some 33) (some (29, true)) false (X.v (A.idx (O.t 31) (O.t 32) 1))), (I.mk (some 34) (some (29, true)) false (X.v (A.load Sh.s (O.t 33)))), (I.mk (some 35) (some (29, true)) false (X.call (O.k (V.fn 45 [] [])) [(O.t 30), (O.t 34)])), (I.mk (some 36) (some (29, true)) false (X.v (A.un UnOp.not (O.t 35)))), (I.mk (some 37) none false (X.v (A.pick (O.t 29) (O.t 36) (O.k (V.bool false)))))] []) A121_10) A121_11)
def A121_8 : AC := (AC.block 4 (AC.loop A121_9))
def A121_14 : AC := (AC.reg [] [(I.mk (some 23) none false (X.v (A.mov (O.t 9)))), (I.mk (some 24) none false (X.v (A.bin BinOp.add (O.t 23) (O.k (V.int IntKind.i64 (Int.ofNat 1)))))), (I.mk (some 9) none false (X.v (A.mov (O.t 24))))] [])
def A121_7 : AC := (AC.seq (AC.block 3 (AC.seq (AC.reg [] [(I.mk (some 10) none false (X.v (A.mov (O.k (V.int IntKind.i64 (Int.ofNat 0))))))] []) A121_8)) A121_14)
def A121_5 : AC := (AC.seq (AC.seq (AC.reg [] [(I.mk (some 19) none false (X.v (A.mov (O.t 9)))), (I.mk (some 20) none false (X.v (A.mov (O.t 1)))), (I.mk (some 21) none false (X.v (A.len (O.t 20)))), (I.mk (some 22) none false (X.v (A.bin BinOp.lss (O.t 19) (O.t 21))))] []) A121_6) A121_7)
def A121_4 : AC := (AC.block 2 (AC.loop A121_5))
def A121_15 : AC := (AC.reg [] [(I.mk (some 17) none false (X.v (A.mov (O.t 8)))), (I.mk (some 18) none false (X.v (A.bin BinOp.add (O.t 17) (O.k (V.int IntKind.i64 (Int.ofNat 1)))))), (I.mk (some 8) none false (X.v (A.mov (O.t 18))))] [])
def A121_3 : AC := (AC.seq (AC.block 1 (AC.seq (AC.reg [] [(I.mk (some 9) none false (X.v (A.mov (O.k (V.int IntKind.i64 (Int.ofNat 0))))))] []) A121_4)) A121_15)
def A121_1 : AC := (AC.seq (AC.seq (AC.reg [] [(I.mk (some 13) none false (X.v (A.mov (O.t 8)))), (I.mk (some 14) none false (X.v (A.mov (O.t 1)))), (I.mk (some 15) none false (X.v (A.len (O.t 14)))), (I.mk (some 16) none false (X.v (A.bin BinOp.lss (O.t 13) (O.t 15))))] []) A121_2) A121_3)
def A121_16 : AC := (AC.seq (AC.reg [] [(I.mk (some 56) none false (X.v (A.mov (O.t 7)))), (I.mk (some 6) none false (X.v (A.mov (O.t 56))))] []) AC.ret)
def A121_19 : AC := (AC.block 0 (AC.loop A121_1))
def A121_18 : AC := (AC.seq (AC.seq (AC.reg [] [(I.mk (some 8) none false (X.v (A.mov (O.k (V.int IntKind.i64 (Int.ofNat 0))))))] []) A121_19) A121_16)
def A121_17 : AC := (AC.seq (AC.reg [.clr [12]] [(I.mk (some 11) none false (X.v (A.mov (O.t 2)))), (I.mk (some 12) none false (X.lit (V.int IntKind.i64 (Int.ofNat 0)) 1 [(0, 0, (O.t 11))])), (I.mk (some 7) none false (X.v (A.mov (O.t 12))))] [.home 12 7, .frz 7]) A121_18)
def A121 : AC := (AC.seq (AC.reg [.clr [3]] [(I.mk (some 3) none false (X.box (O.t 0))), (I.mk (some 6) none false (X.v (A.mov (O.k (V.sl Tok.nl Sh.s 0 [])))))] []) A121_17)
def an121 : List An := [{ id := 0, pre := [.clr [3]], ep := [], lin := [], sp := [] }, { id := 1, pre := [.clr [12]], ep := [.home 12 7, .frz 7], lin := [], sp := [] }, { id := 12, pre := [.frz 7], ep := [], lin := [], sp := [] }]
theorem c121 : cC Try.prog Try.f121.ntmps an121 (Try.f121.body.getD .skip) = some A121 := by kernel_rfl
structure H121 (D : Den) (σ : Sig) (F : Nat) : Prop where
  c45 : ∀ (x0 : (List Int)) (x1 : Int) r, s_l1Has F x0 x1 = some r → D 45 [Enc.enc x0, Enc.enc x1] = some (Enc.enc (r : Bool))
  g45 : σ 45 = some (0, false)
  c122 : ∀ (x0 : (Int × (List (Int × Int)))) (x1 : Int) (x2 : Int) r, s_l2Near F x0 x1 x2 = some r → D 122 [Enc.enc x0, Enc.enc x1, Enc.enc x2] = some (Enc.enc (r : Bool))
  g122 : σ 122 = some (0, false)
  c110 : ∀ (x0 : (List Int)) (x1 : Int) r, s_l1Put F x0 x1 = some r → D 110 [Enc.enc x0, Enc.enc x1] = some (Enc.enc (r : (List Int)))
  g110 : σ 110 = some (0, true)
abbrev R121 (r : (List Int)) : (Nat → V) → Prop := RR Try.prog [.tmp 6] 0 true (Enc.enc (r : (List Int)))
section
variable {D : Den} {σ : Sig} {F : Nat} {r : (List Int)}
def s_l2Reach_j1 (F : Nat) (set_2 : (List Int)) (g_1 : (Int × (List (Int × Int)))) (round_130 : Int) (i_298 : Int) (k_354 : Int) (c1 : (List Int) → Int → Option (List Int)) (c10 : (List Int) → Int → Option (List Int)) (c13 : (List Int) → Int → Option (List Int)) (out_376 : (List Int)) : Option (List Int) :=
  c13 out_376 (w64 (k_354 + 1))
theorem t_f121_j1 (H : H121 D σ F) (set_2 : (List Int)) (g_1 : (Int × (List (Int × Int)))) (round_130 : Int) (i_298 : Int) (k_354 : Int) (c1 : (List Int) → Int → Option (List Int)) (Hc1 : ∀ (out_129 : (List Int)) (round_130 : Int) (s : Nat → V), Facts [(1, (Enc.enc (set_2 : List Int))), (3, (.ref (.bx 3) 0 [] (.agg [(.int .i64 g_1.1), (Enc.enc (g_1.2 : List (Int × Int)))]))), (6, (.sl .nl (Enc.shp Int) 0 [])), (7, (Enc.enc (out_129 : List Int))), (8, (.int .i64 round_130))] s → c1 out_129 round_130 = some r → Run D σ (R121 r) (.run A121_1 [.lp A121_1, .bk 0, .sq A121_16]) s) (c10 : (List Int) → Int → Option (List Int)) (Hc10 : ∀ (out_297 : (List Int)) (i_298 : Int) (s : Nat → V), Facts [(1, (Enc.enc (set_2 : List Int))), (3, (.ref (.bx 3) 0 [] (.agg [(.int .i64 g_1.1), (Enc.enc (g_1.2 : List (Int × Int)))]))), (6, (.sl .nl (Enc.shp Int) 0 [])), (7, (Enc.enc (out_297 : List Int))), (8, (.int .i64 round_130)), (9, (.int .i64 i_298))] s → c10 out_297 i_298 = some r → Run D σ (R121 r) (.run A121_5 [.lp A121_5, .bk 2, .bk 1, .sq A121_15, .lp A121_1, .bk 0, .sq A121_16]) s) (c13 : (List Int) → Int → Option (List Int)) (Hc13 : ∀ (out_353 : (List Int)) (k_354 : Int) (s : Nat → V), Facts [(1, (Enc.enc (set_2 : List Int))), (3, (.ref (.bx 3) 0 [] (.agg [(.int .i64 g_1.1), (Enc.enc (g_1.2 : List (Int × Int)))]))), (6, (.sl .nl (Enc.shp Int) 0 [])), (7, (Enc.enc (out_353 : List Int))), (8, (.int .i64 round_130)), (9, (.int .i64 i_298)), (10, (.int .i64 k_354))] s → c13 out_353 k_354 = some r → Run D σ (R121 r) (.run A121_9 [.lp A121_9, .bk 4, .bk 3, .sq A121_14, .lp A121_5, .bk 2, .bk 1, .sq A121_15, .lp A121_1, .bk 0, .sq A121_16]) s) (out_376 : (List Int)) (s : Nat → V) (hs : Facts [(1, (Enc.enc (set_2 : List Int))), (3, (.ref (.bx 3) 0 [] (.agg [(.int .i64 g_1.1), (Enc.enc (g_1.2 : List (Int × Int)))]))), (6, (.sl .nl (Enc.shp Int) 0 [])), (7, (Enc.enc (out_376 : List Int))), (8, (.int .i64 round_130)), (9, (.int .i64 i_298)), (10, (.int .i64 k_354))] s) (h : s_l2Reach_j1 F set_2 g_1 round_130 i_298 k_354 c1 c10 c13 out_376 = some r) : Run D σ (R121 r) (.nrm [.bk 5, .sq A121_13, .lp A121_9, .bk 4, .bk 3, .sq A121_14, .lp A121_5, .bk 2, .bk 1, .sq A121_15, .lp A121_1, .bk 0, .sq A121_16]) s := by
  unfold s_l2Reach_j1 at h
  obtain ⟨h1, h3, h6, h7, h8, h9, h10⟩ := hs
  refine .nbk ?_
  refine .nsq ?_
  refine run_reg ?_
  refine e_end ?_
  refine g_v1 (t := 10) (u := (.int .i64 k_354)) (.int .i64 k_354) h10 rfl rfl ?_
  refine g_v1 (t := 38) (u := (.int .i64 k_354)) (.int .i64 (w64 (k_354 + 1))) rfl rfl rfl ?_
  refine g_v1 (t := 39) (u := (.int .i64 (w64 (k_354 + 1)))) (.int .i64 (w64 (k_354 + 1))) rfl rfl rfl ?_
  refine g_end ?_
  refine e_end ?_
  refine renew [(1, (Enc.enc (set_2 : List Int))), (3, (.ref (.bx 3) 0 [] (.agg [(.int .i64 g_1.1), (Enc.enc (g_1.2 : List (Int × Int)))]))), (6, (.sl .nl (Enc.shp Int) 0 [])), (7, (Enc.enc (out_376 : List Int))), (8, (.int .i64 round_130)), (9, (.int .i64 i_298)), (10, (.int .i64 (w64 (k_354 + 1))))] ⟨h1, h3, h6, h7, h8, h9, rfl⟩ ?_
  rintro s ⟨h1, h3, h6, h7, h8, h9, h10⟩
  refine .nlp ?_
  exact Hc13 out_376 (w64 (k_354 + 1)) _ ⟨h1, h3, h6, h7, h8, h9, h10⟩ h
def s_l2Reach_j2 (F : Nat) (set_2 : (List Int)) (g_1 : (Int × (List (Int × Int)))) (out_353 : (List Int)) (round_130 : Int) (i_298 : Int) (k_354 : Int) (c1 : (List Int) → Int → Option (List Int)) (c10 : (List Int) → Int → Option (List Int)) (c13 : (List Int) → Int → Option (List Int)) (t37_370 : Bool) : Option (List Int) :=
  bif t37_370 then
    (idx out_353 k_354).bind fun e_371 =>
    (idx set_2 i_298).bind fun e_372 =>
    (s_l2Near F g_1 e_371 e_372).bind fun r_373 =>
    bif r_373 then
      (idx set_2 i_298).bind fun e_377 =>
      (s_l1Put F out_353 e_377).bind fun r_378 =>
      s_l2Reach_j1 F set_2 g_1 round_130 i_298 k_354 c1 c10 c13 r_378
    else
      s_l2Reach_j1 F set_2 g_1 round_130 i_298 k_354 c1 c10 c13 out_353
  else
    c10 out_353 (w64 (i_298 + 1))
theorem t_f121_j2 (H : H121 D σ F) (set_2 : (List Int)) (g_1 : (Int × (List (Int × Int)))) (out_353 : (List Int)) (round_130 : Int) (i_298 : Int) (k_354 : Int) (c1 : (List Int) → Int → Option (List Int)) (Hc1 : ∀ (out_129 : (List Int)) (round_130 : Int) (s : Nat → V), Facts [(1, (Enc.enc (set_2 : List Int))), (3, (.ref (.bx 3) 0 [] (.agg [(.int .i64 g_1.1), (Enc.enc (g_1.2 : List (Int × Int)))]))), (6, (.sl .nl (Enc.shp Int) 0 [])), (7, (Enc.enc (out_129 : List Int))), (8, (.int .i64 round_130))] s → c1 out_129 round_130 = some r → Run D σ (R121 r) (.run A121_1 [.lp A121_1, .bk 0, .sq A121_16]) s) (c10 : (List Int) → Int → Option (List Int)) (Hc10 : ∀ (out_297 : (List Int)) (i_298 : Int) (s : Nat → V), Facts [(1, (Enc.enc (set_2 : List Int))), (3, (.ref (.bx 3) 0 [] (.agg [(.int .i64 g_1.1), (Enc.enc (g_1.2 : List (Int × Int)))]))), (6, (.sl .nl (Enc.shp Int) 0 [])), (7, (Enc.enc (out_297 : List Int))), (8, (.int .i64 round_130)), (9, (.int .i64 i_298))] s → c10 out_297 i_298 = some r → Run D σ (R121 r) (.run A121_5 [.lp A121_5, .bk 2, .bk 1, .sq A121_15, .lp A121_1, .bk 0, .sq A121_16]) s) (c13 : (List Int) → Int → Option (List Int)) (Hc13 : ∀ (out_353 : (List Int)) (k_354 : Int) (s : Nat → V), Facts [(1, (Enc.enc (set_2 : List Int))), (3, (.ref (.bx 3) 0 [] (.agg [(.int .i64 g_1.1), (Enc.enc (g_1.2 : List (Int × Int)))]))), (6, (.sl .nl (Enc.shp Int) 0 [])), (7, (Enc.enc (out_353 : List Int))), (8, (.int .i64 round_130)), (9, (.int .i64 i_298)), (10, (.int .i64 k_354))] s → c13 out_353 k_354 = some r → Run D σ (R121 r) (.run A121_9 [.lp A121_9, .bk 4, .bk 3, .sq A121_14, .lp A121_5, .bk 2, .bk 1, .sq A121_15, .lp A121_1, .bk 0, .sq A121_16]) s) (t37_370 : Bool) (s : Nat → V) (hs : Facts [(1, (Enc.enc (set_2 : List Int))), (3, (.ref (.bx 3) 0 [] (.agg [(.int .i64 g_1.1), (Enc.enc (g_1.2 : List (Int × Int)))]))), (6, (.sl .nl (Enc.shp Int) 0 [])), (7, (Enc.enc (out_353 : List Int))), (8, (.int .i64 round_130)), (9, (.int .i64 i_298)), (10, (.int .i64 k_354)), (37, (.bool t37_370))] s) (h : s_l2Reach_j2 F set_2 g_1 out_353 round_130 i_298 k_354 c1 c10 c13 t37_370 = some r) : Run D σ (R121 r) (.nrm [.sq A121_10, .sq A121_11, .lp A121_9, .bk 4, .bk 3, .sq A121_14, .lp A121_5, .bk 2, .bk 1, .sq A121_15, .lp A121_1, .bk 0, .sq A121_16]) s := by
  unfold s_l2Reach_j2 at h
  obtain ⟨h1, h3, h6, h7, h8, h9, h10, h37⟩ := hs
  refine .nsq ?_
  refine run_cond (t := t37_370) h37 h (fun h => ?_) (fun h => ?_)
  · refine .skip ?_
    refine .nsq ?_
    refine .seq ?_
    refine .block ?_
    refine .seq ?_
    refine run_reg ?_
    refine e_end ?_
    refine g_v1 (t := 3) (u := (.ref (.bx 3) 0 [] (.agg [(.int .i64 g_1.1), (Enc.enc (g_1.2 : List (Int × Int)))]))) (.agg [(.int .i64 g_1.1), (Enc.enc (g_1.2 : List (Int × Int)))]) h3 rfl rfl ?_
    refine g_v1 (t := 7) (u := (Enc.enc (out_353 : List Int))) (Enc.enc (out_353 : List Int)) h7 rfl rfl ?_
    refine g_v1 (t := 10) (u := (.int .i64 k_354)) (.int .i64 k_354) h10 rfl rfl ?_
    obtain ⟨e_371, E_e_371, h⟩ := bind_some h
    refine g_v (.ref .sh 0 [] (.int .i64 e_371)) (ev_idx (t := .sh) (lo := 0) (xs := out_353) rfl rfl E_e_371 rfl rfl) ?_
    refine g_v1 (t := 43) (u := (.ref .sh 0 [] (.int .i64 e_371))) (.int .i64 e_371) rfl rfl rfl ?_
    refine g_v1 (t := 1) (u := (Enc.enc (set_2 : List Int))) (Enc.enc (set_2 : List Int)) h1 rfl rfl ?_
    refine g_v1 (t := 9) (u := (.int .i64 i_298)) (.int .i64 i_298) h9 rfl rfl ?_
    obtain ⟨e_372, E_e_372, h⟩ := bind_some h
    refine g_v (.ref .sh 0 [] (.int .i64 e_372)) (ev_idx (t := .sh) (lo := 0) (xs := set_2) rfl rfl E_e_372 rfl rfl) ?_
    refine g_v1 (t := 47) (u := (.ref .sh 0 [] (.int .i64 e_372))) (.int .i64 e_372) rfl rfl rfl ?_
    obtain ⟨r_373, E_r_373, h⟩ := bind_some h
    refine g_call (m := 0) (al := false) (r := (Enc.enc (r_373 : Bool))) [Enc.enc (g_1 : (Int × (List (Int × Int)))), Enc.enc (e_371 : Int), Enc.enc (e_372 : Int)] (ta_cons (v := (.agg [(.int .i64 g_1.1), (Enc.enc (g_1.2 : List (Int × Int)))])) rfl rfl (Enc.erase_enc (g_1 : (Int × (List (Int × Int))))) (ta_cons (v := (.int .i64 e_371)) rfl rfl rfl (ta_cons (v := (.int .i64 e_372)) rfl rfl rfl ta_nil))) (H.c122 _ _ _ _ E_r_373) H.g122 rfl rfl rfl rfl ?_
    refine g_end ?_
    refine e_end ?_
    refine renew [(1, (Enc.enc (set_2 : List Int))), (3, (.ref (.bx 3) 0 [] (.agg [(.int .i64 g_1.1), (Enc.enc (g_1.2 : List (Int × Int)))]))), (6, (.sl .nl (Enc.shp Int) 0 [])), (7, (Enc.enc (out_353 : List Int))), (8, (.int .i64 round_130)), (9, (.int .i64 i_298)), (10, (.int .i64 k_354)), (49, (.bool r_373))] ⟨h1, h3, h6, h7, h8, h9, h10, rfl⟩ ?_
    rintro s ⟨h1, h3, h6, h7, h8, h9, h10, h49⟩
    refine .nsq ?_
    refine run_cond (t := r_373) h49 h (fun h => ?_) (fun h => ?_)
    · refine run_reg ?_
      refine e_frz (x := 7) (v := (Enc.enc (out_353 : List Int))) [] (by exact h7) (Enc.toks_enc (out_353 : List Int)) (fun s_58 hg_58 => ?_)
      refine e_end ?_
      refine g_v1 (t := 7) (u := (Enc.enc (out_353 : List Int))) (Enc.enc (out_353 : List Int)) (hg_58 7 (Enc.enc (out_353 : List Int)) (Enc.enc (out_353 : List Int)) h7 (frz_none _)) rfl rfl ?_
      refine g_v1 (t := 1) (u := (Enc.enc (set_2 : List Int))) (Enc.enc (set_2 : List Int)) (hg_58 1 (Enc.enc (set_2 : List Int)) (Enc.enc (set_2 : List Int)) h1 (frz_none _)) rfl rfl ?_
      refine g_v1 (t := 9) (u := (.int .i64 i_298)) (.int .i64 i_298) (hg_58 9 (.int .i64 i_298) (.int .i64 i_298) h9 (frz_none _)) rfl rfl ?_
      obtain ⟨e_377, E_e_377, h⟩ := bind_some h
      refine g_v (.ref .sh 0 [] (.int .i64 e_377)) (ev_idx (t := .sh) (lo := 0) (xs := set_2) rfl rfl E_e_377 rfl rfl) ?_
      refine g_v1 (t := 53) (u := (.ref .sh 0 [] (.int .i64 e_377))) (.int .i64 e_377) rfl rfl rfl ?_
      obtain ⟨r_378, E_r_378, h⟩ := bind_some h
      refine g_call (m := 0) (al := true) (r := (Enc.enc (r_378 : (List Int)))) [Enc.enc (out_353 : (List Int)), Enc.enc (e_377 : Int)] (ta_cons (v := (Enc.enc (out_353 : List Int))) rfl rfl (Enc.erase_enc (out_353 : (List Int))) (ta_cons (v := (.int .i64 e_377)) rfl rfl rfl ta_nil)) (H.c110 _ _ _ E_r_378) H.g110 (hal_of (ht_cons (v := (Enc.enc (out_353 : List Int))) rfl rfl rfl (ht_cons (v := (.int .i64 e_377)) rfl rfl rfl ht_nil))) rfl rfl rfl ?_
      refine g_v1 (t := 55) (u := (Enc.enc (r_378 : List Int))) (Enc.enc (r_378 : List Int)) rfl rfl rfl ?_
      refine g_end ?_
      refine e_end ?_
      refine renew [(1, (Enc.enc (set_2 : List Int))), (3, (.ref (.bx 3) 0 [] (.agg [(.int .i64 g_1.1), (Enc.enc (g_1.2 : List (Int × Int)))]))), (6, (.sl .nl (Enc.shp Int) 0 [])), (7, (Enc.enc (r_378 : List Int))), (8, (.int .i64 round_130)), (9, (.int .i64 i_298)), (10, (.int .i64 k_354))] ⟨(hg_58 1 (Enc.enc (set_2 : List Int)) (Enc.enc (set_2 : List Int)) h1 (frz_none _)), (hg_58 3 (.ref (.bx 3) 0 [] (.agg [(.int .i64 g_1.1), (Enc.enc (g_1.2 : List (Int × Int)))])) (.ref (.bx 3) 0 [] (.agg [(.int .i64 g_1.1), (Enc.enc (g_1.2 : List (Int × Int)))])) h3 (frz_none _)), (hg_58 6 (.sl .nl (Enc.shp Int) 0 []) (.sl .nl (Enc.shp Int) 0 []) h6 (frz_none _)), rfl, (hg_58 8 (.int .i64 round_130) (.int .i64 round_130) h8 (frz_none _)), (hg_58 9 (.int .i64 i_298) (.int .i64 i_298) h9 (frz_none _)), (hg_58 10 (.int .i64 k_354) (.int .i64 k_354) h10 (frz_none _))⟩ ?_
      rintro s ⟨h1, h3, h6, h7, h8, h9, h10⟩
      exact t_f121_j1 H set_2 g_1 round_130 i_298 k_354 c1 Hc1 c10 Hc10 c13 Hc13 r_378 _ ⟨h1, h3, h6, h7, h8, h9, h10⟩ h
    · refine .skip ?_
      exact t_f121_j1 H set_2 g_1 round_130 i_298 k_354 c1 Hc1 c10 Hc10 c13 Hc13 out_353 _ ⟨h1, h3, h6, h7, h8, h9, h10⟩ h
  · refine .exit ?_
    refine .esq ?_
    refine .elp ?_
    refine .ebk ?_
    refine .nbk ?_
    refine .nsq ?_
    refine run_reg ?_
    refine e_end ?_
    refine g_v1 (t := 9) (u := (.int .i64 i_298)) (.int .i64 i_298) h9 rfl rfl ?_
    refine g_v1 (t := 23) (u := (.int .i64 i_298)) (.int .i64 (w64 (i_298 + 1))) rfl rfl rfl ?_
    refine g_v1 (t := 24) (u := (.int .i64 (w64 (i_298 + 1)))) (.int .i64 (w64 (i_298 + 1))) rfl rfl rfl ?_
    refine g_end ?_
    refine e_end ?_
    refine renew [(1, (Enc.enc (set_2 : List Int))), (3, (.ref (.bx 3) 0 [] (.agg [(.int .i64 g_1.1), (Enc.enc (g_1.2 : List (Int × Int)))]))), (6, (.sl .nl (Enc.shp Int) 0 [])), (7, (Enc.enc (out_353 : List Int))), (8, (.int .i64 round_130)), (9, (.int .i64 (w64 (i_298 + 1))))] ⟨h1, h3, h6, h7, h8, rfl⟩ ?_
    rintro s ⟨h1, h3, h6, h7, h8, h9⟩
    refine .nlp ?_
    exact Hc10 out_353 (w64 (i_298 + 1)) _ ⟨h1, h3, h6, h7, h8, h9⟩ h
def s_l2Reach_l1 (F : Nat) (set_2 : (List Int)) (g_1 : (Int × (List (Int × Int)))) (round_130 : Int) (i_298 : Int) (c1 : (List Int) → Int → Option (List Int)) (c10 : (List Int) → Int → Option (List Int)) : Nat → (List Int) → Int → Option (List Int)
  | 0, _, _ => none
  | k + 1, out_353, k_354 =>
    bif decide (k_354 < (out_353.length : Int)) then
      (idx set_2 i_298).bind fun e_379 =>
      (s_l1Has F out_353 e_379).bind fun r_380 =>
      s_l2Reach_j2 F set_2 g_1 out_353 round_130 i_298 k_354 c1 c10 (s_l2Reach_l1 F set_2 g_1 round_130 i_298 c1 c10 k) (!r_380)
    else
      s_l2Reach_j2 F set_2 g_1 out_353 round_130 i_298 k_354 c1 c10 (s_l2Reach_l1 F set_2 g_1 round_130 i_298 c1 c10 k) false
theorem t_f121_l1 (H : H121 D σ F) (set_2 : (List Int)) (g_1 : (Int × (List (Int × Int)))) (round_130 : Int) (i_298 : Int) (c1 : (List Int) → Int → Option (List Int)) (Hc1 : ∀ (out_129 : (List Int)) (round_130 : Int) (s : Nat → V), Facts [(1, (Enc.enc (set_2 : List Int))), (3, (.ref (.bx 3) 0 [] (.agg [(.int .i64 g_1.1), (Enc.enc (g_1.2 : List (Int × Int)))]))), (6, (.sl .nl (Enc.shp Int) 0 [])), (7, (Enc.enc (out_129 : List Int))), (8, (.int .i64 round_130))] s → c1 out_129 round_130 = some r → Run D σ (R121 r) (.run A121_1 [.lp A121_1, .bk 0, .sq A121_16]) s) (c10 : (List Int) → Int → Option (List Int)) (Hc10 : ∀ (out_297 : (List Int)) (i_298 : Int) (s : Nat → V), Facts [(1, (Enc.enc (set_2 : List Int))), (3, (.ref (.bx 3) 0 [] (.agg [(.int .i64 g_1.1), (Enc.enc (g_1.2 : List (Int × Int)))]))), (6, (.sl .nl (Enc.shp Int) 0 [])), (7, (Enc.enc (out_297 : List Int))), (8, (.int .i64 round_130)), (9, (.int .i64 i_298))] s → c10 out_297 i_298 = some r → Run D σ (R121 r) (.run A121_5 [.lp A121_5, .bk 2, .bk 1, .sq A121_15, .lp A121_1, .bk 0, .sq A121_16]) s) : ∀ (k : Nat) (out_353 : (List Int)) (k_354 : Int) (s : Nat → V), Facts [(1, (Enc.enc (set_2 : List Int))), (3, (.ref (.bx 3) 0 [] (.agg [(.int .i64 g_1.1), (Enc.enc (g_1.2 : List (Int × Int)))]))), (6, (.sl .nl (Enc.shp Int) 0 [])), (7, (Enc.enc (out_353 : List Int))), (8, (.int .i64 round_130)), (9, (.int .i64 i_298)), (10, (.int .i64 k_354))] s → s_l2Reach_l1 F set_2 g_1 round_130 i_298 c1 c10 k out_353 k_354 = some r → Run D σ (R121 r) (.run A121_9 [.lp A121_9, .bk 4, .bk 3, .sq A121_14, .lp A121_5, .bk 2, .bk 1, .sq A121_15, .lp A121_1, .bk 0, .sq A121_16]) s := by
  intro k
  induction k with
  | zero => intro out_353 k_354 s _ h; exact nomatch (h : (none : Option _) = some r)
  | succ k ih =>
    intro out_353 k_354 s hs h
    rw [s_l2Reach_l1] at h
    obtain ⟨h1, h3, h6, h7, h8, h9, h10⟩ := hs
    refine .seq ?_
    refine .seq ?_
    refine run_reg ?_
    refine e_end ?_
    refine g_v1 (t := 10) (u := (.int .i64 k_354)) (.int .i64 k_354) h10 rfl rfl ?_
    refine g_v1 (t := 7) (u := (Enc.enc (out_353 : List Int))) (Enc.enc (out_353 : List Int)) h7 rfl rfl ?_
    refine g_v (.int .i64 (out_353.length : Int)) (ev_len (xs := out_353) rfl) ?_
    refine g_v2 (t1 := 25) (t2 := 27) (u1 := (.int .i64 k_354)) (u2 := (.int .i64 (out_353.length : Int))) (.bool (decide (k_354 < (out_353.length : Int)))) rfl rfl rfl rfl ?_
    refine g_v1 (t := 28) (u := (.bool (decide (k_354 < (out_353.length : Int))))) (.bool (decide (k_354 < (out_353.length : Int)))) rfl rfl rfl ?_
    refine split_on (c := decide (k_354 < (out_353.length : Int))) h (fun hg5 h => ?_) (fun hg5 h => ?_)
    · refine g_yes (Eq.trans (b := .bool (decide (k_354 < (out_353.length : Int)))) rfl (congrArg V.bool hg5)) (g_v1 (t := 7) (u := (Enc.enc (out_353 : List Int))) (Enc.enc (out_353 : List Int)) h7 rfl rfl ?_)
      refine g_yes (Eq.trans (b := .bool (decide (k_354 < (out_353.length : Int)))) rfl (congrArg V.bool hg5)) (g_v1 (t := 1) (u := (Enc.enc (set_2 : List Int))) (Enc.enc (set_2 : List Int)) h1 rfl rfl ?_)
      refine g_yes (Eq.trans (b := .bool (decide (k_354 < (out_353.length : Int)))) rfl (congrArg V.bool hg5)) (g_v1 (t := 9) (u := (.int .i64 i_298)) (.int .i64 i_298) h9 rfl rfl ?_)
      obtain ⟨e_379, E_e_379, h⟩ := bind_some h
      refine g_yes (Eq.trans (b := .bool (decide (k_354 < (out_353.length : Int)))) rfl (congrArg V.bool hg5)) (g_v (.ref .sh 0 [] (.int .i64 e_379)) (ev_idx (t := .sh) (lo := 0) (xs := set_2) rfl rfl E_e_379 rfl rfl) ?_)
      refine g_yes (Eq.trans (b := .bool (decide (k_354 < (out_353.length : Int)))) rfl (congrArg V.bool hg5)) (g_v1 (t := 33) (u := (.ref .sh 0 [] (.int .i64 e_379))) (.int .i64 e_379) rfl rfl rfl ?_)
      obtain ⟨r_380, E_r_380, h⟩ := bind_some h
      refine g_yes (Eq.trans (b := .bool (decide (k_354 < (out_353.length : Int)))) rfl (congrArg V.bool hg5)) (g_call (m := 0) (al := false) (r := (Enc.enc (r_380 : Bool))) [Enc.enc (out_353 : (List Int)), Enc.enc (e_379 : Int)] (ta_cons (v := (Enc.enc (out_353 : List Int))) rfl rfl (Enc.erase_enc (out_353 : (List Int))) (ta_cons (v := (.int .i64 e_379)) rfl rfl rfl ta_nil)) (H.c45 _ _ _ E_r_380) H.g45 rfl rfl rfl rfl ?_)
      refine g_yes (Eq.trans (b := .bool (decide (k_354 < (out_353.length : Int)))) rfl (congrArg V.bool hg5)) (g_v1 (t := 35) (u := (.bool r_380)) (.bool (!r_380)) rfl rfl rfl ?_)
      refine g_v2 (t1 := 29) (t2 := 36) (u1 := (.bool true)) (u2 := (.bool (!r_380))) (.bool (!r_380)) (Eq.trans (b := .bool (decide (k_354 < (out_353.length : Int)))) rfl (congrArg V.bool hg5)) rfl rfl rfl ?_
      refine g_end ?_
      refine e_end ?_
      refine renew [(1, (Enc.enc (set_2 : List Int))), (3, (.ref (.bx 3) 0 [] (.agg [(.int .i64 g_1.1), (Enc.enc (g_1.2 : List (Int × Int)))]))), (6, (.sl .nl (Enc.shp Int) 0 [])), (7, (Enc.enc (out_353 : List Int))), (8, (.int .i64 round_130)), (9, (.int .i64 i_298)), (10, (.int .i64 k_354)), (37, (.bool (!r_380)))] ⟨h1, h3, h6, h7, h8, h9, h10, rfl⟩ ?_
      rintro s ⟨h1, h3, h6, h7, h8, h9, h10, h37⟩
      exact t_f121_j2 H set_2 g_1 out_353 round_130 i_298 k_354 c1 Hc1 c10 Hc10 (s_l2Reach_l1 F set_2 g_1 round_130 i_298 c1 c10 k) ih (!r_380) _ ⟨h1, h3, h6, h7, h8, h9, h10, h37⟩ h
    · refine g_no (Eq.trans (b := .bool (decide (k_354 < (out_353.length : Int)))) rfl (congrArg V.bool hg5)) ?_
      refine g_no (Eq.trans (b := .bool (decide (k_354 < (out_353.length : Int)))) rfl (congrArg V.bool hg5)) ?_
      refine g_no (Eq.trans (b := .bool (decide (k_354 < (out_353.length : Int)))) rfl (congrArg V.bool hg5)) ?_
      refine g_no (Eq.trans (b := .bool (decide (k_354 < (out_353.length : Int)))) rfl (congrArg V.bool hg5)) ?_
      refine g_no (Eq.trans (b := .bool (decide (k_354 < (out_353.length : Int)))) rfl (congrArg V.bool hg5)) ?_
      refine g_no (Eq.trans (b := .bool (decide (k_354 < (out_353.length : Int)))) rfl (congrArg V.bool hg5)) ?_
      refine g_no (Eq.trans (b := .bool (decide (k_354 < (out_353.length : Int)))) rfl (congrArg V.bool hg5)) ?_
      refine g_v2 (t1 := 29) (t2 := 36) (u1 := (.bool false)) (u2 := (.tup [])) (.bool false) (Eq.trans (b := .bool (decide (k_354 < (out_353.length : Int)))) rfl (congrArg V.bool hg5)) rfl rfl rfl ?_
      refine g_end ?_
      refine e_end ?_
      refine renew [(1, (Enc.enc (set_2 : List Int))), (3, (.ref (.bx 3) 0 [] (.agg [(.int .i64 g_1.1), (Enc.enc (g_1.2 : List (Int × Int)))]))), (6, (.sl .nl (Enc.shp Int) 0 [])), (7, (Enc.enc (out_353 : List Int))), (8, (.int .i64 round_130)), (9, (.int .i64 i_298)), (10, (.int .i64 k_354)), (37, (.bool false))] ⟨h1, h3, h6, h7, h8, h9, h10, rfl⟩ ?_
      rintro s ⟨h1, h3, h6, h7, h8, h9, h10, h37⟩
      exact t_f121_j2 H set_2 g_1 out_353 round_130 i_298 k_354 c1 Hc1 c10 Hc10 (s_l2Reach_l1 F set_2 g_1 round_130 i_298 c1 c10 k) ih false _ ⟨h1, h3, h6, h7, h8, h9, h10, h37⟩ h
def s_l2Reach_l2 (F : Nat) (set_2 : (List Int)) (g_1 : (Int × (List (Int × Int)))) (round_130 : Int) (c1 : (List Int) → Int → Option (List Int)) : Nat → (List Int) → Int → Option (List Int)
  | 0, _, _ => none
  | k + 1, out_297, i_298 =>
    bif decide (i_298 < (set_2.length : Int)) then
      s_l2Reach_l1 F set_2 g_1 round_130 i_298 c1 (s_l2Reach_l2 F set_2 g_1 round_130 c1 k) F out_297 0
    else
      c1 out_297 (w64 (round_130 + 1))
theorem t_f121_l2 (H : H121 D σ F) (set_2 : (List Int)) (g_1 : (Int × (List (Int × Int)))) (round_130 : Int) (c1 : (List Int) → Int → Option (List Int)) (Hc1 : ∀ (out_129 : (List Int)) (round_130 : Int) (s : Nat → V), Facts [(1, (Enc.enc (set_2 : List Int))), (3, (.ref (.bx 3) 0 [] (.agg [(.int .i64 g_1.1), (Enc.enc (g_1.2 : List (Int × Int)))]))), (6, (.sl .nl (Enc.shp Int) 0 [])), (7, (Enc.enc (out_129 : List Int))), (8, (.int .i64 round_130))] s → c1 out_129 round_130 = some r → Run D σ (R121 r) (.run A121_1 [.lp A121_1, .bk 0, .sq A121_16]) s) : ∀ (k : Nat) (out_297 : (List Int)) (i_298 : Int) (s : Nat → V), Facts [(1, (Enc.enc (set_2 : List Int))), (3, (.ref (.bx 3) 0 [] (.agg [(.int .i64 g_1.1), (Enc.enc (g_1.2 : List (Int × Int)))]))), (6, (.sl .nl (Enc.shp Int) 0 [])), (7, (Enc.enc (out_297 : List Int))), (8, (.int .i64 round_130)), (9, (.int .i64 i_298))] s → s_l2Reach_l2 F set_2 g_1 round_130 c1 k out_297 i_298 = some r → Run D σ (R121 r) (.run A121_5 [.lp A121_5, .bk 2, .bk 1, .sq A121_15, .lp A121_1, .bk 0, .sq A121_16]) s := by
  intro k
  induction k with
  | zero => intro out_297 i_298 s _ h; exact nomatch (h : (none : Option _) = some r)
  | succ k ih =>
    intro out_297 i_298 s hs h
    rw [s_l2Reach_l2] at h
    obtain ⟨h1, h3, h6, h7, h8, h9⟩ := hs
    refine .seq ?_
    refine .seq ?_
    refine run_reg ?_
    refine e_end ?_
    refine g_v1 (t := 9) (u := (.int .i64 i_298)) (.int .i64 i_298) h9 rfl rfl ?_
    refine g_v1 (t := 1) (u := (Enc.enc (set_2 : List Int))) (Enc.enc (set_2 : List Int)) h1 rfl rfl ?_
    refine g_v (.int .i64 (set_2.length : Int)) (ev_len (xs := set_2) rfl) ?_
    refine g_v2 (t1 := 19) (t2 := 21) (u1 := (.int .i64 i_298)) (u2 := (.int .i64 (set_2.length : Int))) (.bool (decide (i_298 < (set_2.length : Int)))) rfl rfl rfl rfl ?_
    refine g_end ?_
    refine e_end ?_
    refine renew [(1, (Enc.enc (set_2 : List Int))), (3, (.ref (.bx 3) 0 [] (.agg [(.int .i64 g_1.1), (Enc.enc (g_1.2 : List (Int × Int)))]))), (6, (.sl .nl (Enc.shp Int) 0 [])), (7, (Enc.enc (out_297 : List Int))), (8, (.int .i64 round_130)), (9, (.int .i64 i_298)), (22, (.bool (decide (i_298 < (set_2.length : Int)))))] ⟨h1, h3, h6, h7, h8, h9, rfl⟩ ?_
    rintro s ⟨h1, h3, h6, h7, h8, h9, h22⟩
    refine .nsq ?_
    refine run_cond (t := decide (i_298 < (set_2.length : Int))) h22 h (fun h => ?_) (fun h => ?_)
    · refine .skip ?_
      refine .nsq ?_
      refine .seq ?_
      refine .block ?_
      refine .seq ?_
      refine run_reg ?_
      refine e_end ?_
      refine g_v0 (.int .i64 0) rfl rfl ?_
      refine g_end ?_
      refine e_end ?_
      refine renew [(1, (Enc.enc (set_2 : List Int))), (3, (.ref (.bx 3) 0 [] (.agg [(.int .i64 g_1.1), (Enc.enc (g_1.2 : List (Int × Int)))]))), (6, (.sl .nl (Enc.shp Int) 0 [])), (7, (Enc.enc (out_297 : List Int))), (8, (.int .i64 round_130)), (9, (.int .i64 i_298)), (10, (.int .i64 0))] ⟨h1, h3, h6, h7, h8, h9, rfl⟩ ?_
      rintro s ⟨h1, h3, h6, h7, h8, h9, h10⟩
      refine .nsq ?_
      refine .block ?_
      refine .loop ?_
      exact t_f121_l1 H set_2 g_1 round_130 i_298 c1 Hc1 (s_l2Reach_l2 F set_2 g_1 round_130 c1 k) ih F out_297 0 _ ⟨h1, h3, h6, h7, h8, h9, h10⟩ h
    · refine .exit ?_
      refine .esq ?_
      refine .elp ?_
      refine .ebk ?_
      refine .nbk ?_
      refine .nsq ?_
      refine run_reg ?_
      refine e_end ?_
      refine g_v1 (t := 8) (u := (.int .i64 round_130)) (.int .i64 round_130) h8 rfl rfl ?_
      refine g_v1 (t := 17) (u := (.int .i64 round_130)) (.int .i64 (w64 (round_130 + 1))) rfl rfl rfl ?_
      refine g_v1 (t := 18) (u := (.int .i64 (w64 (round_130 + 1)))) (.int .i64 (w64 (round_130 + 1))) rfl rfl rfl ?_
      refine g_end ?_
      refine e_end ?_
      refine renew [(1, (Enc.enc (set_2 : List Int))), (3, (.ref (.bx 3) 0 [] (.agg [(.int .i64 g_1.1), (Enc.enc (g_1.2 : List (Int × Int)))]))), (6, (.sl .nl (Enc.shp Int) 0 [])), (7, (Enc.enc (out_297 : List Int))), (8, (.int .i64 (w64 (round_130 + 1))))] ⟨h1, h3, h6, h7, rfl⟩ ?_
      rintro s ⟨h1, h3, h6, h7, h8⟩
      refine .nlp ?_
      exact Hc1 out_297 (w64 (round_130 + 1)) _ ⟨h1, h3, h6, h7, h8⟩ h
def s_l2Reach_l3 (F : Nat) (set_2 : (List Int)) (g_1 : (Int × (List (Int × Int))))  : Nat → (List Int) → Int → Option (List Int)
  | 0, _, _ => none
  | k + 1, out_129, round_130 =>
    bif decide (round_130 < (set_2.length : Int)) then
      s_l2Reach_l2 F set_2 g_1 round_130 (s_l2Reach_l3 F set_2 g_1 k) F out_129 0
    else
      some out_129
theorem t_f121_l3 (H : H121 D σ F) (set_2 : (List Int)) (g_1 : (Int × (List (Int × Int))))  : ∀ (k : Nat) (out_129 : (List Int)) (round_130 : Int) (s : Nat → V), Facts [(1, (Enc.enc (set_2 : List Int))), (3, (.ref (.bx 3) 0 [] (.agg [(.int .i64 g_1.1), (Enc.enc (g_1.2 : List (Int × Int)))]))), (6, (.sl .nl (Enc.shp Int) 0 [])), (7, (Enc.enc (out_129 : List Int))), (8, (.int .i64 round_130))] s → s_l2Reach_l3 F set_2 g_1 k out_129 round_130 = some r → Run D σ (R121 r) (.run A121_1 [.lp A121_1, .bk 0, .sq A121_16]) s := by
  intro k
  induction k with
  | zero => intro out_129 round_130 s _ h; exact nomatch (h : (none : Option _) = some r)
  | succ k ih =>
    intro out_129 round_130 s hs h
    rw [s_l2Reach_l3] at h
    obtain ⟨h1, h3, h6, h7, h8⟩ := hs
    refine .seq ?_
    refine .seq ?_
    refine run_reg ?_
    refine e_end ?_
    refine g_v1 (t := 8) (u := (.int .i64 round_130)) (.int .i64 round_130) h8 rfl rfl ?_
    refine g_v1 (t := 1) (u := (Enc.enc (set_2 : List Int))) (Enc.enc (set_2 : List Int)) h1 rfl rfl ?_
    refine g_v (.int .i64 (set_2.length : Int)) (ev_len (xs := set_2) rfl) ?_
    refine g_v2 (t1 := 13) (t2 := 15) (u1 := (.int .i64 round_130)) (u2 := (.int .i64 (set_2.length : Int))) (.bool (decide (round_130 < (set_2.length : Int)))) rfl rfl rfl rfl ?_
    refine g_end ?_
    refine e_end ?_
    refine renew [(1, (Enc.enc (set_2 : List Int))), (3, (.ref (.bx 3) 0 [] (.agg [(.int .i64 g_1.1), (Enc.enc (g_1.2 : List (Int × Int)))]))), (6, (.sl .nl (Enc.shp Int) 0 [])), (7, (Enc.enc (out_129 : List Int))), (8, (.int .i64 round_130)), (16, (.bool (decide (round_130 < (set_2.length : Int)))))] ⟨h1, h3, h6, h7, h8, rfl⟩ ?_
    rintro s ⟨h1, h3, h6, h7, h8, h16⟩
    refine .nsq ?_
    refine run_cond (t := decide (round_130 < (set_2.length : Int))) h16 h (fun h => ?_) (fun h => ?_)
    · refine .skip ?_
      refine .nsq ?_
      refine .seq ?_
      refine .block ?_
      refine .seq ?_
      refine run_reg ?_
      refine e_end ?_
      refine g_v0 (.int .i64 0) rfl rfl ?_
      refine g_end ?_
      refine e_end ?_
      refine renew [(1, (Enc.enc (set_2 : List Int))), (3, (.ref (.bx 3) 0 [] (.agg [(.int .i64 g_1.1), (Enc.enc (g_1.2 : List (Int × Int)))]))), (6, (.sl .nl (Enc.shp Int) 0 [])), (7, (Enc.enc (out_129 : List Int))), (8, (.int .i64 round_130)), (9, (.int .i64 0))] ⟨h1, h3, h6, h7, h8, rfl⟩ ?_
      rintro s ⟨h1, h3, h6, h7, h8, h9⟩
      refine .nsq ?_
      refine .block ?_
      refine .loop ?_
      exact t_f121_l2 H set_2 g_1 round_130 (s_l2Reach_l3 F set_2 g_1 k) ih F out_129 0 _ ⟨h1, h3, h6, h7, h8, h9⟩ h
    · refine .exit ?_
      refine .esq ?_
      refine .elp ?_
      refine .ebk ?_
      refine .nsq ?_
      refine .seq ?_
      refine run_reg ?_
      refine e_end ?_
      refine g_v1 (t := 7) (u := (Enc.enc (out_129 : List Int))) (Enc.enc (out_129 : List Int)) h7 rfl rfl ?_
      refine g_v1 (t := 56) (u := (Enc.enc (out_129 : List Int))) (Enc.enc (out_129 : List Int)) rfl rfl rfl ?_
      refine g_end ?_
      refine e_end ?_
      refine renew [(6, (Enc.enc (out_129 : List Int)))] rfl ?_
      rintro s h6
      refine .nsq ?_
      refine .ret ?_
      have hr := Option.some.inj h
      subst hr
      exact rrA (res_tmp h6) (fin_ret1 (fin_enc (x := (out_129 : (List Int)))))
def s_l2Reach (F : Nat) (g_1 : (Int × (List (Int × Int)))) (set_2 : (List Int)) (x_3 : Int) : Option (List Int) :=
  s_l2Reach_l3 F set_2 g_1 F [x_3] 0
theorem t121 (H : H121 D σ F) (g_1 : (Int × (List (Int × Int)))) (set_2 : (List Int)) (x_3 : Int) (s : Nat → V) (hs : Facts [(0, (.agg [(.int .i64 g_1.1), (Enc.enc (g_1.2 : List (Int × Int)))])), (1, (Enc.enc (set_2 : List Int))), (2, (.int .i64 x_3))] s) (h : s_l2Reach F g_1 set_2 x_3 = some r) : Run D σ (R121 r) (.run A121 []) s := by
  unfold s_l2Reach at h
  obtain ⟨h0, h1, h2⟩ := hs
  refine .seq ?_
  refine run_reg ?_
  refine e_clr ?_
  refine e_end ?_
  refine g_box (.agg [(.int .i64 g_1.1), (Enc.enc (g_1.2 : List (Int × Int)))]) (rd_of (keep_clear (s := s) (pk := [3]) h0 rfl (map_agg (maps_cons rfl (maps_cons (Enc.map_enc _ (g_1.2 : List (Int × Int))) maps_nil)))) rfl) (gone_clear (s := s) (pk := [3]) (t := 3) rfl) rfl ?_
  refine g_v0 (.sl .nl (Enc.shp Int) 0 []) rfl rfl ?_
  refine g_end ?_
  refine e_end ?_
  refine renew [(1, (Enc.enc (set_2 : List Int))), (2, (.int .i64 x_3)), (3, (.ref (.bx 3) 0 [] (.agg [(.int .i64 g_1.1), (Enc.enc (g_1.2 : List (Int × Int)))]))), (6, (.sl .nl (Enc.shp Int) 0 []))] ⟨(keep_clear (s := s) (pk := [3]) h1 rfl (Enc.map_enc _ (set_2 : List Int))), (keep_clear (s := s) (pk := [3]) h2 rfl rfl), rfl, rfl⟩ ?_
  rintro s ⟨h1, h2, h3, h6⟩
  refine .nsq ?_
  refine .seq ?_
  refine run_reg ?_
  refine e_clr ?_
  refine e_end ?_
  refine g_v1 (t := 2) (u := (.int .i64 x_3)) (.int .i64 x_3) (keep_clear (s := s) (pk := [12]) h2 rfl rfl) rfl rfl ?_
  refine g_litL [(11, (.int .i64 x_3))] [Enc.enc (x_3 : Int)] rfl rfl rfl (gone_clear (s := s) (pk := [12]) (t := 12) rfl) ?_
  refine g_v1 (t := 12) (u := (encO (.at 12 []) (.of ([x_3] : List Int)))) (encO (.at 12 []) (.of ([x_3] : List Int))) rfl rfl rfl ?_
  refine g_end ?_
  refine e_home (r := 12) (x := 7) (v := (encO (.at 12 []) (.of ([x_3] : List Int)))) (by exact rfl) rfl (fun s_3 hg_3 => ?_)
  refine e_frz (x := 7) (v := (encO (.at 7 []) (.of ([x_3] : List Int)))) [(.at 7 [])] (by exact (hg_3 7 (encO (.at 12 []) (.of ([x_3] : List Int))) (encO (.at 7 []) (.of ([x_3] : List Int))) rfl (map_encO (r := 12) (p := []) rfl rfl))) toks_ownL (fun s_4 hg_4 => ?_)
  refine e_end ?_
  refine renew [(1, (Enc.enc (set_2 : List Int))), (3, (.ref (.bx 3) 0 [] (.agg [(.int .i64 g_1.1), (Enc.enc (g_1.2 : List (Int × Int)))]))), (6, (.sl .nl (Enc.shp Int) 0 [])), (7, (Enc.enc ([x_3] : List Int)))] ⟨(hg_4 1 (Enc.enc (set_2 : List Int)) (Enc.enc (set_2 : List Int)) (hg_3 1 (Enc.enc (set_2 : List Int)) (Enc.enc (set_2 : List Int)) (keep_clear (s := s) (pk := [12]) h1 rfl (Enc.map_enc _ (set_2 : List Int))) (Enc.map_enc _ (set_2 : List Int))) (Enc.frz_enc _ (set_2 : List Int))), (hg_4 3 (.ref (.bx 3) 0 [] (.agg [(.int .i64 g_1.1), (Enc.enc (g_1.2 : List (Int × Int)))])) (.ref (.bx 3) 0 [] (.agg [(.int .i64 g_1.1), (Enc.enc (g_1.2 : List (Int × Int)))])) (hg_3 3 (.ref (.bx 3) 0 [] (.agg [(.int .i64 g_1.1), (Enc.enc (g_1.2 : List (Int × Int)))])) (.ref (.bx 3) 0 [] (.agg [(.int .i64 g_1.1), (Enc.enc (g_1.2 : List (Int × Int)))])) (keep_clear (s := s) (pk := [12]) h3 rfl (map_bx rfl (map_agg (maps_cons rfl (maps_cons (Enc.map_enc _ (g_1.2 : List (Int × Int))) maps_nil))))) (map_bx rfl (map_agg (maps_cons rfl (maps_cons (Enc.map_enc _ (g_1.2 : List (Int × Int))) maps_nil))))) (frz_ref_ne rfl (frz_agg (frzs_cons rfl (frzs_cons (Enc.frz_enc _ (g_1.2 : List (Int × Int))) rfl))) rfl)), (hg_4 6 (.sl .nl (Enc.shp Int) 0 []) (.sl .nl (Enc.shp Int) 0 []) (hg_3 6 (.sl .nl (Enc.shp Int) 0 []) (.sl .nl (Enc.shp Int) 0 []) (keep_clear (s := s) (pk := [12]) h6 rfl rfl) rfl) rfl), (hg_4 7 (encO (.at 7 []) (.of ([x_3] : List Int))) (Enc.enc ([x_3] : List Int)) (hg_3 7 (encO (.at 12 []) (.of ([x_3] : List Int))) (encO (.at 7 []) (.of ([x_3] : List Int))) rfl (map_encO (r := 12) (p := []) rfl rfl)) frz_own)⟩ ?_
  rintro s ⟨h1, h3, h6, h7⟩
  refine .nsq ?_
  refine .seq ?_
  refine .seq ?_
  refine run_reg ?_
  refine e_end ?_
  refine g_v0 (.int .i64 0) rfl rfl ?_
  refine g_end ?_
  refine e_end ?_
  refine renew [(1, (Enc.enc (set_2 : List Int))), (3, (.ref (.bx 3) 0 [] (.agg [(.int .i64 g_1.1), (Enc.enc (g_1.2 : List (Int × Int)))]))), (6, (.sl .nl (Enc.shp Int) 0 [])), (7, (Enc.enc ([x_3] : List Int))), (8, (.int .i64 0))] ⟨h1, h3, h6, h7, rfl⟩ ?_
  rintro s ⟨h1, h3, h6, h7, h8⟩
  refine .nsq ?_
  refine .block ?_
  refine .loop ?_
  exact t_f121_l3 H set_2 g_1 F [x_3] 0 _ ⟨h1, h3, h6, h7, h8⟩ h
end
def e121 (F : Nat) : Ent := ⟨121, da (fun (x : ((Int × (List (Int × Int))) × (List Int) × Int × Unit)) => s_l2Reach F x.1 x.2.1 x.2.2.1) (fun (r : (List Int)) => (Enc.enc (r : (List Int)))), 0, true, selF []⟩
theorem p121 {F : Nat} {x0 : (Int × (List (Int × Int)))} {x1 : (List Int)} {x2 : Int} {r : (List Int)} (h : s_l2Reach F x0 x1 x2 = some r) : (e121 F).den [Enc.enc x0, Enc.enc x1, Enc.enc x2] = some (Enc.enc (r : (List Int))) := da_put (f := fun (x : ((Int × (List (Int × Int))) × (List Int) × Int × Unit)) => s_l2Reach F x.1 x.2.1 x.2.2.1) (t := fun (r : (List Int)) => (Enc.enc (r : (List Int)))) (x0, x1, x2, ()) h
theorem o121 {D : Den} {σ : Sig} {F : Nat} (hF : Fits2 Try.prog D σ) (H : H121 D σ F) : (e121 F).Ok Try.prog := by
  refine ⟨fun args r h => ?_, ⟨Try.f121, Try.func121, rfl, rfl⟩⟩
  obtain ⟨⟨x0, x1, x2, _⟩, y, rfl, hy, rfl⟩ := da_open h
  exact contract_run hF (by kernel_rfl) Try.func121 rfl c121 (show 3 ≤ Try.f121.ntmps by decide) (t121 H x0 x1 x2 _ ⟨rfl, rfl, rfl⟩ hy)
/- loop.example/g01109/spec.l2Parts -/
def A90_2 : AC := (AC.cond (O.t 15) AC.skip (AC.exit 0))
def A90_4 : AC := (AC.cond (O.t 23) (AC.exit 1) AC.skip)
def A90_9 : AC := (AC.cond (O.t 34) AC.skip (AC.exit 2))
def A90_11 : AC := (AC.reg [] [(I.mk (some 35) none false (X.v (A.mov (O.t 9)))), (I.mk (some 36) none false (X.v (A.bin BinOp.add (O.t 35) (O.k (V.int IntKind.i64 (Int.ofNat 1)))))), (I.mk (some 9) none false (X.v (A.mov (O.t 36))))] [])
def A90_10 : AC := (AC.seq (AC.block 3 (AC.reg [.frz 6] [(I.mk (some 37) none false (X.v (A.mov (O.t 6)))), (I.mk (some 38) none false (X.v (A.mov (O.t 8)))), (I.mk (some 39) none false (X.v (A.mov (O.t 9)))), (I.mk (some 40) none false (X.v (A.idx (O.t 38) (O.t 39) 1))), (I.mk (some 41) none false (X.v (A.load Sh.s (O.t 40)))), (I.mk (some 42) none false (X.call (O.k (V.fn 110 [] [])) [(O.t 37), (O.t 41)])), (I.mk (some 6) none false (X.v (A.mov (O.t 42))))] [])) A90_11)
def A90_8 : AC := (AC.seq (AC.seq (AC.reg [] [(I.mk (some 31) none false (X.v (A.mov (O.t 9)))), (I.mk (some 32) none false (X.v (A.mov (O.t 8)))), (I.mk (some 33) none false (X.v (A.len (O.t 32)))), (I.mk (some 34) none false (X.v (A.bin BinOp.lss (O.t 31) (O.t 33))))] []) A90_9) A90_10)
def A90_7 : AC := (AC.block 2 (AC.loop A90_8))
def A90_12 : AC := (AC.reg [.clr [45, 46]] [(I.mk (some 43) none false (X.v (A.mov (O.t 5)))), (I.mk (some 44) none false (X.v (A.mov (O.t 8)))), (I.mk (some 45) none false (X.lit (V.sl Tok.nl Sh.s 0 []) 1 [(0, 0, (O.t 44))])), (I.mk (some 46) none false (X.app Sh.p (O.t 43) (O.t 45))), (I.mk (some 5) none false (X.v (A.mov (O.t 46))))] [.home 46 5])
def A90_6 : AC := (AC.seq (AC.seq (AC.reg [] [(I.mk (some 9) none false (X.v (A.mov (O.k (V.int IntKind.i64 (Int.ofNat 0))))))] []) A90_7) A90_12)
def A90_5 : AC := (AC.seq (AC.reg [] [(I.mk (some 24) none false (X.v (A.load (Sh.ag [Sh.s, Sh.p]) (O.t 2)))), (I.mk (some 25) none false (X.v (A.mov (O.t 1)))), (I.mk (some 26) none false (X.v (A.mov (O.t 1)))), (I.mk (some 27) none false (X.v (A.mov (O.t 7)))), (I.mk (some 28) none false (X.v (A.idx (O.t 26) (O.t 27) 1))), (I.mk (some 29) none false (X.v (A.load Sh.s (O.t 28)))), (I.mk (some 30) none false (X.call (O.k (V.fn 121 [] [])) [(O.t 24), (O.t 25), (O.t 29)])), (I.mk (some 8) none false (X.v (A.mov (O.t 30))))] []) A90_6)
def A90_13 : AC := (AC.reg [] [(I.mk (some 16) none false (X.v (A.mov (O.t 7)))), (I.mk (some 17) none false (X.v (A.bin BinOp.add (O.t 16) (O.k (V.int IntKind.i64 (Int.ofNat 1)))))), (I.mk (some 7) none false (X.v (A.mov (O.t 17))))] [])
def A90_3 : AC := (AC.seq (AC.block 1 (AC.seq (AC.seq (AC.reg [] [(I.mk (some 18) none false (X.v (A.mov (O.t 6)))), (I.mk (some 19) none false (X.v (A.mov (O.t 1)))), (I.mk (some 20) none false (X.v (A.mov (O.t 7)))), (I.mk (some 21) none false (X.v (A.idx (O.t 19) (O.t 20) 1))), (I.mk (some 22) none false (X.v (A.load Sh.s (O.t 21)))), (I.mk (some 23) none false (X.call (O.k (V.fn 45 [] [])) [(O.t 18), (O.t 22)]))] []) A90_4) A90_5)) A90_13)
def A90_1 : AC := (AC.seq (AC.seq (AC.reg [] [(I.mk (some 12) none false (X.v (A.mov (O.t 7)))), (I.mk (some 13) none false (X.v (A.mov (O.t 1)))), (I.mk (some 14) none false (X.v (A.len (O.t 13)))), (I.mk (some 15) none false (X.v (A.bin BinOp.lss (O.t 12) (O.t 14))))] []) A90_2) A90_3)
def A90_14 : AC := (AC.seq (AC.reg [] [(I.mk (some 47) none false (X.v (A.mov (O.t 5)))), (I.mk (some 4) none false (X.v (A.mov (O.t 47))))] [.home 5 4]) AC.ret)
def A90_17 : AC := (AC.block 0 (AC.loop A90_1))
def A90_16 : AC := (AC.seq (AC.seq (AC.reg [] [(I.mk (some 7) none false (X.v (A.mov (O.k (V.int IntKind.i64 (Int.ofNat 0))))))] [.frz 6]) A90_17) A90_14)
def A90_15 : AC := (AC.seq (AC.reg [.clr [10, 11]] [(I.mk (some 10) none false (X.lit (V.sl Tok.nl Sh.s 0 []) 0 [])), (I.mk (some 11) none false (X.lit (V.int IntKind.i64 (Int.ofNat 0)) 0 [])), (I.mk (some 5) none false (X.v (A.mov (O.t 10)))), (I.mk (some 6) none false (X.v (A.mov (O.t 11))))] [.home 10 5, .home 11 6]) A90_16)
def A90 : AC := (AC.seq (AC.reg [.clr [2]] [(I.mk (some 2) none false (X.box (O.t 0))), (I.mk (some 4) none false (X.v (A.mov (O.k (V.sl Tok.nl Sh.p 0 [])))))] []) A90_15)
def an90 : List An := [{ id := 0, pre := [.clr [2]], ep := [], lin := [], sp := [] }, { id := 1, pre := [.clr [10, 11]], ep := [.home 10 5, .home 11 6], lin := [], sp := [] }, { id := 2, pre := [], ep := [.frz 6], lin := [], sp := [] }, { id := 10, pre := [.frz 6], ep := [], lin := [], sp := [] }, { id := 11, pre := [.clr [45, 46]], ep := [.home 46 5], lin := [], sp := [] }, { id := 12, pre := [], ep := [.home 5 4], lin := [], sp := [] }]
theorem c90 : cC Try.prog Try.f90.ntmps an90 (Try.f90.body.getD .skip) = some A90 := by kernel_rfl
structure H90 (D : Den) (σ : Sig) (F : Nat) : Prop where
  c45 : ∀ (x0 : (List Int)) (x1 : Int) r, s_l1Has F x0 x1 = some r → D 45 [Enc.enc x0, Enc.enc x1] = some (Enc.enc (r : Bool))
  g45 : σ 45 = some (0, false)
  c121 : ∀ (x0 : (Int × (List (Int × Int)))) (x1 : (List Int)) (x2 : Int) r, s_l2Reach F x0 x1 x2 = some r → D 121 [Enc.enc x0, Enc.enc x1, Enc.enc x2] = some (Enc.enc (r : (List Int)))
  g121 : σ 121 = some (0, true)
  c110 : ∀ (x0 : (List Int)) (x1 : Int) r, s_l1Put F x0 x1 = some r → D 110 [Enc.enc x0, Enc.enc x1] = some (Enc.enc (r : (List Int)))
  g110 : σ 110 = some (0, true)
abbrev R90 (r : (List (List Int))) : (Nat → V) → Prop := RR Try.prog [.tmp 4] 0 true (Enc.enc (r : (List (List Int))))
section
variable {D : Den} {σ : Sig} {F : Nat} {r : (List (List Int))}
def s_l2Parts_l1 (F : Nat) (set_2 : (List Int)) (g_1 : (Int × (List (Int × Int)))) (out_16 : (List (List Int))) (i_18 : Int) (r_35 : (List Int)) (c1 : (List (List Int)) → (List Int) → Int → Option (List (List Int))) : Nat → (List Int) → Int → Option (List (List Int))
  | 0, _, _ => none
  | k + 1, seen_38, k_39 =>
    bif decide (k_39 < (r_35.length : Int)) then
      (idx r_35 k_39).bind fun e_42 =>
      (s_l1Put F seen_38 e_42).bind fun r_43 =>
      (s_l2Parts_l1 F set_2 g_1 out_16 i_18 r_35 c1 k) r_43 (w64 (k_39 + 1))
    else
      (appL out_16 [r_35]).bind fun ap_44 =>
      c1 ap_44 seen_38 (w64 (i_18 + 1))
theorem t_f90_l1 (H : H90 D σ F) (set_2 : (List Int)) (g_1 : (Int × (List (Int × Int)))) (out_16 : (List (List Int))) (i_18 : Int) (r_35 : (List Int)) (c1 : (List (List Int)) → (List Int) → Int → Option (List (List Int))) (Hc1 : ∀ (out_16 : (List (List Int))) (seen_17 : (List Int)) (i_18 : Int) (s : Nat → V), Facts [(1, (Enc.enc (set_2 : List Int))), (2, (.ref (.bx 2) 0 [] (.agg [(.int .i64 g_1.1), (Enc.enc (g_1.2 : List (Int × Int)))]))), (4, (.sl .nl (Enc.shp (List Int)) 0 [])), (5, (encO (.at 5 []) (.of (out_16 : List (List Int))))), (6, (Enc.enc (seen_17 : List Int))), (7, (.int .i64 i_18))] s → c1 out_16 seen_17 i_18 = some r → Run D σ (R90 r) (.run A90_1 [.lp A90_1, .bk 0, .sq A90_14]) s) : ∀ (k : Nat) (seen_38 : (List Int)) (k_39 : Int) (s : Nat → V), Facts [(1, (Enc.enc (set_2 : List Int))), (2, (.ref (.bx 2) 0 [] (.agg [(.int .i64 g_1.1), (Enc.enc (g_1.2 : List (Int × Int)))]))), (4, (.sl .nl (Enc.shp (List Int)) 0 [])), (5, (encO (.at 5 []) (.of (out_16 : List (List Int))))), (6, (Enc.enc (seen_38 : List Int))), (7, (.int .i64 i_18)), (8, (Enc.enc (r_35 : List Int))), (9, (.int .i64 k_39))] s → s_l2Parts_l1 F set_2 g_1 out_16 i_18 r_35 c1 k seen_38 k_39 = some r → Run D σ (R90 r) (.run A90_8 [.lp A90_8, .bk 2, .sq A90_12, .bk 1, .sq A90_13, .lp A90_1, .bk 0, .sq A90_14]) s := by
  intro k
  induction k with
  | zero => intro seen_38 k_39 s _ h; exact nomatch (h : (none : Option _) = some r)
  | succ k ih =>
    intro seen_38 k_39 s hs h
    rw [s_l2Parts_l1] at h
    obtain ⟨h1, h2, h4, h5, h6, h7, h8, h9⟩ := hs
    refine .seq ?_
    refine .seq ?_
    refine run_reg ?_
    refine e_end ?_
    refine g_v1 (t := 9) (u := (.int .i64 k_39)) (.int .i64 k_39) h9 rfl rfl ?_
    refine g_v1 (t := 8) (u := (Enc.enc (r_35 : List Int))) (Enc.enc (r_35 : List Int)) h8 rfl rfl ?_
    refine g_v (.int .i64 (r_35.length : Int)) (ev_len (xs := r_35) rfl) ?_
    refine g_v2 (t1 := 31) (t2 := 33) (u1 := (.int .i64 k_39)) (u2 := (.int .i64 (r_35.length : Int))) (.bool (decide (k_39 < (r_35.length : Int)))) rfl rfl rfl rfl ?_
    refine g_end ?_
    refine e_end ?_
    refine renew [(1, (Enc.enc (set_2 : List Int))), (2, (.ref (.bx 2) 0 [] (.agg [(.int .i64 g_1.1), (Enc.enc (g_1.2 : List (Int × Int)))]))), (4, (.sl .nl (Enc.shp (List Int)) 0 [])), (5, (encO (.at 5 []) (.of (out_16 : List (List Int))))), (6, (Enc.enc (seen_38 : List Int))), (7, (.int .i64 i_18)), (8, (Enc.enc (r_35 : List Int))), (9, (.int .i64 k_39)), (34, (.bool (decide (k_39 < (r_35.length : Int)))))] ⟨h1, h2, h4, h5, h6, h7, h8, h9, rfl⟩ ?_
    rintro s ⟨h1, h2, h4, h5, h6, h7, h8, h9, h34⟩
    refine .nsq ?_
    refine run_cond (t := decide (k_39 < (r_35.length : Int))) h34 h (fun h => ?_) (fun h => ?_)
    · refine .skip ?_
      refine .nsq ?_
      refine .seq ?_
      refine .block ?_
      refine run_reg ?_
      refine e_frz (x := 6) (v := (Enc.enc (seen_38 : List Int))) [] (by exact h6) (Enc.toks_enc (seen_38 : List Int)) (fun s_20 hg_20 => ?_)
      refine e_end ?_
      refine g_v1 (t := 6) (u := (Enc.enc (seen_38 : List Int))) (Enc.enc (seen_38 : List Int)) (hg_20 6 (Enc.enc (seen_38 : List Int)) (Enc.enc (seen_38 : List Int)) h6 (frz_none _)) rfl rfl ?_
      refine g_v1 (t := 8) (u := (Enc.enc (r_35 : List Int))) (Enc.enc (r_35 : List Int)) (hg_20 8 (Enc.enc (r_35 : List Int)) (Enc.enc (r_35 : List Int)) h8 (frz_none _)) rfl rfl ?_
      refine g_v1 (t := 9) (u := (.int .i64 k_39)) (.int .i64 k_39) (hg_20 9 (.int .i64 k_39) (.int .i64 k_39) h9 (frz_none _)) rfl rfl ?_
      obtain ⟨e_42, E_e_42, h⟩ := bind_some h
      refine g_v (.ref .sh 0 [] (.int .i64 e_42)) (ev_idx (t := .sh) (lo := 0) (xs := r_35) rfl rfl E_e_42 rfl rfl) ?_
      refine g_v1 (t := 40) (u := (.ref .sh 0 [] (.int .i64 e_42))) (.int .i64 e_42) rfl rfl rfl ?_
      obtain ⟨r_43, E_r_43, h⟩ := bind_some h
      refine g_call (m := 0) (al := true) (r := (Enc.enc (r_43 : (List Int)))) [Enc.enc (seen_38 : (List Int)), Enc.enc (e_42 : Int)] (ta_cons (v := (Enc.enc (seen_38 : List Int))) rfl rfl (Enc.erase_enc (seen_38 : (List Int))) (ta_cons (v := (.int .i64 e_42)) rfl rfl rfl ta_nil)) (H.c110 _ _ _ E_r_43) H.g110 (hal_of (ht_cons (v := (Enc.enc (seen_38 : List Int))) rfl rfl rfl (ht_cons (v := (.int .i64 e_42)) rfl rfl rfl ht_nil))) rfl rfl rfl ?_
      refine g_v1 (t := 42) (u := (Enc.enc (r_43 : List Int))) (Enc.enc (r_43 : List Int)) rfl rfl rfl ?_
      refine g_end ?_
      refine e_end ?_
      refine renew [(1, (Enc.enc (set_2 : List Int))), (2, (.ref (.bx 2) 0 [] (.agg [(.int .i64 g_1.1), (Enc.enc (g_1.2 : List (Int × Int)))]))), (4, (.sl .nl (Enc.shp (List Int)) 0 [])), (5, (encO (.at 5 []) (.of (out_16 : List (List Int))))), (6, (Enc.enc (r_43 : List Int))), (7, (.int .i64 i_18)), (8, (Enc.enc (r_35 : List Int))), (9, (.int .i64 k_39))] ⟨(hg_20 1 (Enc.enc (set_2 : List Int)) (Enc.enc (set_2 : List Int)) h1 (frz_none _)), (hg_20 2 (.ref (.bx 2) 0 [] (.agg [(.int .i64 g_1.1), (Enc.enc (g_1.2 : List (Int × Int)))])) (.ref (.bx 2) 0 [] (.agg [(.int .i64 g_1.1), (Enc.enc (g_1.2 : List (Int × Int)))])) h2 (frz_none _)), (hg_20 4 (.sl .nl (Enc.shp (List Int)) 0 []) (.sl .nl (Enc.shp (List Int)) 0 []) h4 (frz_none _)), (hg_20 5 (encO (.at 5 []) (.of (out_16 : List (List Int)))) (encO (.at 5 []) (.of (out_16 : List (List Int)))) h5 (frz_none _)), rfl, (hg_20 7 (.int .i64 i_18) (.int .i64 i_18) h7 (frz_none _)), (hg_20 8 (Enc.enc (r_35 : List Int)) (Enc.enc (r_35 : List Int)) h8 (frz_none _)), (hg_20 9 (.int .i64 k_39) (.int .i64 k_39) h9 (frz_none _))⟩ ?_
      rintro s ⟨h1, h2, h4, h5, h6, h7, h8, h9⟩
      refine .nbk ?_
      refine .nsq ?_
      refine run_reg ?_
      refine e_end ?_
      refine g_v1 (t := 9) (u := (.int .i64 k_39)) (.int .i64 k_39) h9 rfl rfl ?_
      refine g_v1 (t := 35) (u := (.int .i64 k_39)) (.int .i64 (w64 (k_39 + 1))) rfl rfl rfl ?_
      refine g_v1 (t := 36) (u := (.int .i64 (w64 (k_39 + 1)))) (.int .i64 (w64 (k_39 + 1))) rfl rfl rfl ?_
      refine g_end ?_
      refine e_end ?_
      refine renew [(1, (Enc.enc (set_2 : List Int))), (2, (.ref (.bx 2) 0 [] (.agg [(.int .i64 g_1.1), (Enc.enc (g_1.2 : List (Int × Int)))]))), (4, (.sl .nl (Enc.shp (List Int)) 0 [])), (5, (encO (.at 5 []) (.of (out_16 : List (List Int))))), (6, (Enc.enc (r_43 : List Int))), (7, (.int .i64 i_18)), (8, (Enc.enc (r_35 : List Int))), (9, (.int .i64 (w64 (k_39 + 1))))] ⟨h1, h2, h4, h5, h6, h7, h8, rfl⟩ ?_
      rintro s ⟨h1, h2, h4, h5, h6, h7, h8, h9⟩
      refine .nlp ?_
      exact ih r_43 (w64 (k_39 + 1)) _ ⟨h1, h2, h4, h5, h6, h7, h8, h9⟩ h
    · refine .exit ?_
      refine .esq ?_
      refine .elp ?_
      refine .ebk ?_
      refine .nsq ?_
      refine run_reg ?_
      refine e_clr ?_
      refine e_end ?_
      refine g_v1 (t := 5) (u := (encO (.at 5 []) (.of (out_16 : List (List Int))))) (encO (.at 5 []) (.of (out_16 : List (List Int)))) (keep_clear (s := s) (pk := [45, 46]) h5 rfl (map_encO (r := 5) (p := []) rfl rfl)) rfl rfl ?_
      refine g_v1 (t := 8) (u := (Enc.enc (r_35 : List Int))) (Enc.enc (r_35 : List Int)) (keep_clear (s := s) (pk := [45, 46]) h8 rfl (Enc.map_enc _ (r_35 : List Int))) rfl rfl ?_
      refine g_litL [(44, (Enc.enc (r_35 : List Int)))] [Enc.enc (r_35 : (List Int))] rfl rfl rfl (gone_clear (s := s) (pk := [45, 46]) (t := 45) rfl) ?_
      obtain ⟨ap_44, E_ap_44, h⟩ := bind_some h
      refine g_app (q := 5) (p := []) (o := (.of (out_16 : List (List Int)))) (ys := ([r_35] : List (List Int))) (t2 := (.at 45 [])) (lo2 := 0) rfl rfl rfl (gone_clear (s := s) (pk := [45, 46]) (t := 46) rfl) (appN_L (o := (.of (out_16 : List (List Int)))) E_ap_44 trivial) (fun s_22 ha_22 => ?_)
      refine g_v1 (t := 46) (u := (encO (.at 46 []) (.of (ap_44 : List (List Int))))) (encO (.at 46 []) (.of (ap_44 : List (List Int)))) rfl rfl rfl ?_
      refine g_end ?_
      refine e_home (r := 46) (x := 5) (v := (encO (.at 46 []) (.of (ap_44 : List (List Int))))) (by exact rfl) rfl (fun s_23 hg_23 => ?_)
      refine e_end ?_
      refine renew [(1, (Enc.enc (set_2 : List Int))), (2, (.ref (.bx 2) 0 [] (.agg [(.int .i64 g_1.1), (Enc.enc (g_1.2 : List (Int × Int)))]))), (4, (.sl .nl (Enc.shp (List Int)) 0 [])), (5, (encO (.at 5 []) (.of (ap_44 : List (List Int))))), (6, (Enc.enc (seen_38 : List Int))), (7, (.int .i64 i_18))] ⟨(hg_23 1 (Enc.enc (set_2 : List Int)) (Enc.enc (set_2 : List Int)) (show s_22 1 = (Enc.enc (set_2 : List Int)) from keep_app ha_22 (keep_clear (s := s) (pk := [45, 46]) h1 rfl (Enc.map_enc _ (set_2 : List Int))) (Enc.map_enc _ (set_2 : List Int))) (Enc.map_enc _ (set_2 : List Int))), (hg_23 2 (.ref (.bx 2) 0 [] (.agg [(.int .i64 g_1.1), (Enc.enc (g_1.2 : List (Int × Int)))])) (.ref (.bx 2) 0 [] (.agg [(.int .i64 g_1.1), (Enc.enc (g_1.2 : List (Int × Int)))])) (show s_22 2 = (.ref (.bx 2) 0 [] (.agg [(.int .i64 g_1.1), (Enc.enc (g_1.2 : List (Int × Int)))])) from keep_app ha_22 (keep_clear (s := s) (pk := [45, 46]) h2 rfl (map_bx rfl (map_agg (maps_cons rfl (maps_cons (Enc.map_enc _ (g_1.2 : List (Int × Int))) maps_nil))))) (map_bx rfl (map_agg (maps_cons rfl (maps_cons (Enc.map_enc _ (g_1.2 : List (Int × Int))) maps_nil))))) (map_bx rfl (map_agg (maps_cons rfl (maps_cons (Enc.map_enc _ (g_1.2 : List (Int × Int))) maps_nil))))), (hg_23 4 (.sl .nl (Enc.shp (List Int)) 0 []) (.sl .nl (Enc.shp (List Int)) 0 []) (show s_22 4 = (.sl .nl (Enc.shp (List Int)) 0 []) from keep_app ha_22 (keep_clear (s := s) (pk := [45, 46]) h4 rfl rfl) rfl) rfl), (hg_23 5 (encO (.at 46 []) (.of (ap_44 : List (List Int)))) (encO (.at 5 []) (.of (ap_44 : List (List Int)))) rfl (map_encO (r := 46) (p := []) rfl rfl)), (hg_23 6 (Enc.enc (seen_38 : List Int)) (Enc.enc (seen_38 : List Int)) (show s_22 6 = (Enc.enc (seen_38 : List Int)) from keep_app ha_22 (keep_clear (s := s) (pk := [45, 46]) h6 rfl (Enc.map_enc _ (seen_38 : List Int))) (Enc.map_enc _ (seen_38 : List Int))) (Enc.map_enc _ (seen_38 : List Int))), (hg_23 7 (.int .i64 i_18) (.int .i64 i_18) (show s_22 7 = (.int .i64 i_18) from keep_app ha_22 (keep_clear (s := s) (pk := [45, 46]) h7 rfl rfl) rfl) rfl)⟩ ?_
      rintro s ⟨h1, h2, h4, h5, h6, h7⟩
      refine .nbk ?_
      refine .nsq ?_
      refine run_reg ?_
      refine e_end ?_
      refine g_v1 (t := 7) (u := (.int .i64 i_18)) (.int .i64 i_18) h7 rfl rfl ?_
      refine g_v1 (t := 16) (u := (.int .i64 i_18)) (.int .i64 (w64 (i_18 + 1))) rfl rfl rfl ?_
      refine g_v1 (t := 17) (u := (.int .i64 (w64 (i_18 + 1)))) (.int .i64 (w64 (i_18 + 1))) rfl rfl rfl ?_
      refine g_end ?_
      refine e_end ?_
      refine renew [(1, (Enc.enc (set_2 : List Int))), (2, (.ref (.bx 2) 0 [] (.agg [(.int .i64 g_1.1), (Enc.enc (g_1.2 : List (Int × Int)))]))), (4, (.sl .nl (Enc.shp (List Int)) 0 [])), (5, (encO (.at 5 []) (.of (ap_44 : List (List Int))))), (6, (Enc.enc (seen_38 : List Int))), (7, (.int .i64 (w64 (i_18 + 1))))] ⟨h1, h2, h4, h5, h6, rfl⟩ ?_
      rintro s ⟨h1, h2, h4, h5, h6, h7⟩
      refine .nlp ?_
      exact Hc1 ap_44 seen_38 (w64 (i_18 + 1)) _ ⟨h1, h2, h4, h5, h6, h7⟩ h
def s_l2Parts_l2 (F : Nat) (set_2 : (List Int)) (g_1 : (Int × (List (Int × Int))))  : Nat → (List (List Int)) → (List Int) → Int → Option (List (List Int))
  | 0, _, _, _ => none
  | k + 1, out_16, seen_17, i_18 =>
    bif decide (i_18 < (set_2.length : Int)) then
      (idx set_2 i_18).bind fun e_32 =>
      (s_l1Has F seen_17 e_32).bind fun r_33 =>
      bif r_33 then
        (s_l2Parts_l2 F set_2 g_1 k) out_16 seen_17 (w64 (i_18 + 1))
      else
        (idx set_2 i_18).bind fun e_34 =>
        (s_l2Reach F g_1 set_2 e_34).bind fun r_35 =>
        s_l2Parts_l1 F set_2 g_1 out_16 i_18 r_35 (s_l2Parts_l2 F set_2 g_1 k) F seen_17 0
    else
      some out_16
theorem t_f90_l2 (H : H90 D σ F) (set_2 : (List Int)) (g_1 : (Int × (List (Int × Int))))  : ∀ (k : Nat) (out_16 : (List (List Int))) (seen_17 : (List Int)) (i_18 : Int) (s : Nat → V), Facts [(1, (Enc.enc (set_2 : List Int))), (2, (.ref (.bx 2) 0 [] (.agg [(.int .i64 g_1.1), (Enc.enc (g_1.2 : List (Int × Int)))]))), (4, (.sl .nl (Enc.shp (List Int)) 0 [])), (5, (encO (.at 5 []) (.of (out_16 : List (List Int))))), (6, (Enc.enc (seen_17 : List Int))), (7, (.int .i64 i_18))] s → s_l2Parts_l2 F set_2 g_1 k out_16 seen_17 i_18 = some r → Run D σ (R90 r) (.run A90_1 [.lp A90_1, .bk 0, .sq A90_14]) s := by
  intro k
  induction k with
  | zero => intro out_16 seen_17 i_18 s _ h; exact nomatch (h : (none : Option _) = some r)
  | succ k ih =>
    intro out_16 seen_17 i_18 s hs h
    rw [s_l2Parts_l2] at h
    obtain ⟨h1, h2, h4, h5, h6, h7⟩ := hs
    refine .seq ?_
    refine .seq ?_
    refine run_reg ?_
    refine e_end ?_
    refine g_v1 (t := 7) (u := (.int .i64 i_18)) (.int .i64 i_18) h7 rfl rfl ?_
    refine g_v1 (t := 1) (u := (Enc.enc (set_2 : List Int))) (Enc.enc (set_2 : List Int)) h1 rfl rfl ?_
    refine g_v (.int .i64 (set_2.length : Int)) (ev_len (xs := set_2) rfl) ?_
    refine g_v2 (t1 := 12) (t2 := 14) (u1 := (.int .i64 i_18)) (u2 := (.int .i64 (set_2.length : Int))) (.bool (decide (i_18 < (set_2.length : Int)))) rfl rfl rfl rfl ?_
    refine g_end ?_
    refine e_end ?_
    refine renew [(1, (Enc.enc (set_2 : List Int))), (2, (.ref (.bx 2) 0 [] (.agg [(.int .i64 g_1.1), (Enc.enc (g_1.2 : List (Int × Int)))]))), (4, (.sl .nl (Enc.shp (List Int)) 0 [])), (5, (encO (.at 5 []) (.of (out_16 : List (List Int))))), (6, (Enc.enc (seen_17 : List Int))), (7, (.int .i64 i_18)), (15, (.bool (decide (i_18 < (set_2.length : Int)))))] ⟨h1, h2, h4, h5, h6, h7, rfl⟩ ?_
    rintro s ⟨h1, h2, h4, h5, h6, h7, h15⟩
    refine .nsq ?_
    refine run_cond (t := decide (i_18 < (set_2.length : Int))) h15 h (fun h => ?_) (fun h => ?_)
    · refine .skip ?_
      refine .nsq ?_
      refine .seq ?_
      refine .block ?_
      refine .seq ?_
      refine .seq ?_
      refine run_reg ?_
      refine e_end ?_
      refine g_v1 (t := 6) (u := (Enc.enc (seen_17 : List Int))) (Enc.enc (seen_17 : List Int)) h6 rfl rfl ?_
      refine g_v1 (t := 1) (u := (Enc.enc (set_2 : List Int))) (Enc.enc (set_2 : List Int)) h1 rfl rfl ?_
      refine g_v1 (t := 7) (u := (.int .i64 i_18)) (.int .i64 i_18) h7 rfl rfl ?_
      obtain ⟨e_32, E_e_32, h⟩ := bind_some h
      refine g_v (.ref .sh 0 [] (.int .i64 e_32)) (ev_idx (t := .sh) (lo := 0) (xs := set_2) rfl rfl E_e_32 rfl rfl) ?_
      refine g_v1 (t := 21) (u := (.ref .sh 0 [] (.int .i64 e_32))) (.int .i64 e_32) rfl rfl rfl ?_
      obtain ⟨r_33, E_r_33, h⟩ := bind_some h
      refine g_call (m := 0) (al := false) (r := (Enc.enc (r_33 : Bool))) [Enc.enc (seen_17 : (List Int)), Enc.enc (e_32 : Int)] (ta_cons (v := (Enc.enc (seen_17 : List Int))) rfl rfl (Enc.erase_enc (seen_17 : (List Int))) (ta_cons (v := (.int .i64 e_32)) rfl rfl rfl ta_nil)) (H.c45 _ _ _ E_r_33) H.g45 rfl rfl rfl rfl ?_
      refine g_end ?_
      refine e_end ?_
      refine renew [(1, (Enc.enc (set_2 : List Int))), (2, (.ref (.bx 2) 0 [] (.agg [(.int .i64 g_1.1), (Enc.enc (g_1.2 : List (Int × Int)))]))), (4, (.sl .nl (Enc.shp (List Int)) 0 [])), (5, (encO (.at 5 []) (.of (out_16 : List (List Int))))), (6, (Enc.enc (seen_17 : List Int))), (7, (.int .i64 i_18)), (23, (.bool r_33))] ⟨h1, h2, h4, h5, h6, h7, rfl⟩ ?_
      rintro s ⟨h1, h2, h4, h5, h6, h7, h23⟩
      refine .nsq ?_
      refine run_cond (t := r_33) h23 h (fun h => ?_) (fun h => ?_)
      · refine .exit ?_
        refine .esq ?_
        refine .ebk ?_
        refine .nsq ?_
        refine run_reg ?_
        refine e_end ?_
        refine g_v1 (t := 7) (u := (.int .i64 i_18)) (.int .i64 i_18) h7 rfl rfl ?_
        refine g_v1 (t := 16) (u := (.int .i64 i_18)) (.int .i64 (w64 (i_18 + 1))) rfl rfl rfl ?_
        refine g_v1 (t := 17) (u := (.int .i64 (w64 (i_18 + 1)))) (.int .i64 (w64 (i_18 + 1))) rfl rfl rfl ?_
        refine g_end ?_
        refine e_end ?_
        refine renew [(1, (Enc.enc (set_2 : List Int))), (2, (.ref (.bx 2) 0 [] (.agg [(.int .i64 g_1.1), (Enc.enc (g_1.2 : List (Int × Int)))]))), (4, (.sl .nl (Enc.shp (List Int)) 0 [])), (5, (encO (.at 5 []) (.of (out_16 : List (List Int))))), (6, (Enc.enc (seen_17 : List Int))), (7, (.int .i64 (w64 (i_18 + 1))))] ⟨h1, h2, h4, h5, h6, rfl⟩ ?_
        rintro s ⟨h1, h2, h4, h5, h6, h7⟩
        refine .nlp ?_
        exact ih out_16 seen_17 (w64 (i_18 + 1)) _ ⟨h1, h2, h4, h5, h6, h7⟩ h
      · refine .skip ?_
        refine .nsq ?_
        refine .seq ?_
        refine run_reg ?_
        refine e_end ?_
        refine g_v1 (t := 2) (u := (.ref (.bx 2) 0 [] (.agg [(.int .i64 g_1.1), (Enc.enc (g_1.2 : List (Int × Int)))]))) (.agg [(.int .i64 g_1.1), (Enc.enc (g_1.2 : List (Int × Int)))]) h2 rfl rfl ?_
        refine g_v1 (t := 1) (u := (Enc.enc (set_2 : List Int))) (Enc.enc (set_2 : List Int)) h1 rfl rfl ?_
        refine g_v1 (t := 1) (u := (Enc.enc (set_2 : List Int))) (Enc.enc (set_2 : List Int)) h1 rfl rfl ?_
        refine g_v1 (t := 7) (u := (.int .i64 i_18)) (.int .i64 i_18) h7 rfl rfl ?_
        obtain ⟨e_34, E_e_34, h⟩ := bind_some h
        refine g_v (.ref .sh 0 [] (.int .i64 e_34)) (ev_idx (t := .sh) (lo := 0) (xs := set_2) rfl rfl E_e_34 rfl rfl) ?_
        refine g_v1 (t := 28) (u := (.ref .sh 0 [] (.int .i64 e_34))) (.int .i64 e_34) rfl rfl rfl ?_
        obtain ⟨r_35, E_r_35, h⟩ := bind_some h
        refine g_call (m := 0) (al := true) (r := (Enc.enc (r_35 : (List Int)))) [Enc.enc (g_1 : (Int × (List (Int × Int)))), Enc.enc (set_2 : (List Int)), Enc.enc (e_34 : Int)] (ta_cons (v := (.agg [(.int .i64 g_1.1), (Enc.enc (g_1.2 : List (Int × Int)))])) rfl rfl (Enc.erase_enc (g_1 : (Int × (List (Int × Int))))) (ta_cons (v := (Enc.enc (set_2 : List Int))) rfl rfl (Enc.erase_enc (set_2 : (List Int))) (ta_cons (v := (.int .i64 e_34)) rfl rfl rfl ta_nil))) (H.c121 _ _ _ _ E_r_35) H.g121 (hal_of (ht_cons (v := (.agg [(.int .i64 g_1.1), (Enc.enc (g_1.2 : List (Int × Int)))])) rfl rfl rfl (ht_cons (v := (Enc.enc (set_2 : List Int))) rfl rfl rfl (ht_cons (v := (.int .i64 e_34)) rfl rfl rfl ht_nil)))) rfl rfl rfl ?_
        refine g_v1 (t := 30) (u := (Enc.enc (r_35 : List Int))) (Enc.enc (r_35 : List Int)) rfl rfl rfl ?_
        refine g_end ?_
        refine e_end ?_
        refine renew [(1, (Enc.enc (set_2 : List Int))), (2, (.ref (.bx 2) 0 [] (.agg [(.int .i64 g_1.1), (Enc.enc (g_1.2 : List (Int × Int)))]))), (4, (.sl .nl (Enc.shp (List Int)) 0 [])), (5, (encO (.at 5 []) (.of (out_16 : List (List Int))))), (6, (Enc.enc (seen_17 : List Int))), (7, (.int .i64 i_18)), (8, (Enc.enc (r_35 : List Int)))] ⟨h1, h2, h4, h5, h6, h7, rfl⟩ ?_
        rintro s ⟨h1, h2, h4, h5, h6, h7, h8⟩
        refine .nsq ?_
        refine .seq ?_
        refine .seq ?_
        refine run_reg ?_
        refine e_end ?_
        refine g_v0 (.int .i64 0) rfl rfl ?_
        refine g_end ?_
        refine e_end ?_
        refine renew [(1, (Enc.enc (set_2 : List Int))), (2, (.ref (.bx 2) 0 [] (.agg [(.int .i64 g_1.1), (Enc.enc (g_1.2 : List (Int × Int)))]))), (4, (.sl .nl (Enc.shp (List Int)) 0 [])), (5, (encO (.at 5 []) (.of (out_16 : List (List Int))))), (6, (Enc.enc (seen_17 : List Int))), (7, (.int .i64 i_18)), (8, (Enc.enc (r_35 : List Int))), (9, (.int .i64 0))] ⟨h1, h2, h4, h5, h6, h7, h8, rfl⟩ ?_
        rintro s ⟨h1, h2, h4, h5, h6, h7, h8, h9⟩
        refine .nsq ?_
        refine .block ?_
        refine .loop ?_
        exact t_f90_l1 H set_2 g_1 out_16 i_18 r_35 (s_l2Parts_l2 F set_2 g_1 k) ih F seen_17 0 _ ⟨h1, h2, h4, h5, h6, h7, h8, h9⟩ h
    · refine .exit ?_
      refine .esq ?_
      refine .elp ?_
      refine .ebk ?_
      refine .nsq ?_
      refine .seq ?_
      refine run_reg ?_
      refine e_end ?_
      refine g_v1 (t := 5) (u := (encO (.at 5 []) (.of (out_16 : List (List Int))))) (encO (.at 5 []) (.of (out_16 : List (List Int)))) h5 rfl rfl ?_
      refine g_v1 (t := 47) (u := (encO (.at 5 []) (.of (out_16 : List (List Int))))) (encO (.at 5 []) (.of (out_16 : List (List Int)))) rfl rfl rfl ?_
      refine g_end ?_
      refine e_home (r := 5) (x := 4) (v := (encO (.at 5 []) (.of (out_16 : List (List Int))))) (by exact rfl) rfl (fun s_24 hg_24 => ?_)
      refine e_end ?_
      refine renew [(4, (encO (.at 4 []) (.of (out_16 : List (List Int)))))] (hg_24 4 (encO (.at 5 []) (.of (out_16 : List (List Int)))) (encO (.at 4 []) (.of (out_16 : List (List Int)))) rfl (map_encO (r := 5) (p := []) rfl rfl)) ?_
      rintro s h4
      refine .nsq ?_
      refine .ret ?_
      have hr := Option.some.inj h
      subst hr
      exact rrA (res_tmp h4) (fin_ret1 (fin_own (o := .of out_16)))
def s_l2Parts (F : Nat) (g_1 : (Int × (List (Int × Int)))) (set_2 : (List Int)) : Option (List (List Int)) :=
  s_l2Parts_l2 F set_2 g_1 F [] [] 0
theorem t90 (H : H90 D σ F) (g_1 : (Int × (List (Int × Int)))) (set_2 : (List Int)) (s : Nat → V) (hs : Facts [(0, (.agg [(.int .i64 g_1.1), (Enc.enc (g_1.2 : List (Int × Int)))])), (1, (Enc.enc (set_2 : List Int)))] s) (h : s_l2Parts F g_1 set_2 = some r) : Run D σ (R90 r) (.run A90 []) s := by
  unfold s_l2Parts at h
  obtain ⟨h0, h1⟩ := hs
  refine .seq ?_
  refine run_reg ?_
  refine e_clr ?_
  refine e_end ?_
  refine g_box (.agg [(.int .i64 g_1.1), (Enc.enc (g_1.2 : List (Int × Int)))]) (rd_of (keep_clear (s := s) (pk := [2]) h0 rfl (map_agg (maps_cons rfl (maps_cons (Enc.map_enc _ (g_1.2 : List (Int × Int))) maps_nil)))) rfl) (gone_clear (s := s) (pk := [2]) (t := 2) rfl) rfl ?_
  refine g_v0 (.sl .nl (Enc.shp (List Int)) 0 []) rfl rfl ?_
  refine g_end ?_
  refine e_end ?_
  refine renew [(1, (Enc.enc (set_2 : List Int))), (2, (.ref (.bx 2) 0 [] (.agg [(.int .i64 g_1.1), (Enc.enc (g_1.2 : List (Int × Int)))]))), (4, (.sl .nl (Enc.shp (List Int)) 0 []))] ⟨(keep_clear (s := s) (pk := [2]) h1 rfl (Enc.map_enc _ (set_2 : List Int))), rfl, rfl⟩ ?_
  rintro s ⟨h1, h2, h4⟩
  refine .nsq ?_
  refine .seq ?_
  refine run_reg ?_
  refine e_clr ?_
  refine e_end ?_
  refine g_litL [] [] trivial rfl rfl (gone_clear (s := s) (pk := [10, 11]) (t := 10) rfl) ?_
  refine g_litL [] [] trivial rfl rfl (gone_clear (s := s) (pk := [10, 11]) (t := 11) rfl) ?_
  refine g_v1 (t := 10) (u := (encO (.at 10 []) (.of ([] : List (List Int))))) (encO (.at 10 []) (.of ([] : List (List Int)))) rfl rfl rfl ?_
  refine g_v1 (t := 11) (u := (encO (.at 11 []) (.of ([] : List Int)))) (encO (.at 11 []) (.of ([] : List Int))) rfl rfl rfl ?_
  refine g_end ?_
  refine e_home (r := 10) (x := 5) (v := (encO (.at 10 []) (.of ([] : List (List Int))))) (by exact rfl) rfl (fun s_3 hg_3 => ?_)
  refine e_home (r := 11) (x := 6) (v := (encO (.at 11 []) (.of ([] : List Int)))) (by exact (hg_3 6 (encO (.at 11 []) (.of ([] : List Int))) (encO (.at 11 []) (.of ([] : List Int))) rfl (map_encO (r := 11) (p := []) rfl rfl))) rfl (fun s_4 hg_4 => ?_)
  refine e_end ?_
  refine renew [(1, (Enc.enc (set_2 : List Int))), (2, (.ref (.bx 2) 0 [] (.agg [(.int .i64 g_1.1), (Enc.enc (g_1.2 : List (Int × Int)))]))), (4, (.sl .nl (Enc.shp (List Int)) 0 [])), (5, (encO (.at 5 []) (.of ([] : List (List Int))))), (6, (encO (.at 6 []) (.of ([] : List Int))))] ⟨(hg_4 1 (Enc.enc (set_2 : List Int)) (Enc.enc (set_2 : List Int)) (hg_3 1 (Enc.enc (set_2 : List Int)) (Enc.enc (set_2 : List Int)) (keep_clear (s := s) (pk := [10, 11]) h1 rfl (Enc.map_enc _ (set_2 : List Int))) (Enc.map_enc _ (set_2 : List Int))) (Enc.map_enc _ (set_2 : List Int))), (hg_4 2 (.ref (.bx 2) 0 [] (.agg [(.int .i64 g_1.1), (Enc.enc (g_1.2 : List (Int × Int)))])) (.ref (.bx 2) 0 [] (.agg [(.int .i64 g_1.1), (Enc.enc (g_1.2 : List (Int × Int)))])) (hg_3 2 (.ref (.bx 2) 0 [] (.agg [(.int .i64 g_1.1), (Enc.enc (g_1.2 : List (Int × Int)))])) (.ref (.bx 2) 0 [] (.agg [(.int .i64 g_1.1), (Enc.enc (g_1.2 : List (Int × Int)))])) (keep_clear (s := s) (pk := [10, 11]) h2 rfl (map_bx rfl (map_agg (maps_cons rfl (maps_cons (Enc.map_enc _ (g_1.2 : List (Int × Int))) maps_nil))))) (map_bx rfl (map_agg (maps_cons rfl (maps_cons (Enc.map_enc _ (g_1.2 : List (Int × Int))) maps_nil))))) (map_bx rfl (map_agg (maps_cons rfl (maps_cons (Enc.map_enc _ (g_1.2 : List (Int × Int))) maps_nil))))), (hg_4 4 (.sl .nl (Enc.shp (List Int)) 0 []) (.sl .nl (Enc.shp (List Int)) 0 []) (hg_3 4 (.sl .nl (Enc.shp (List Int)) 0 []) (.sl .nl (Enc.shp (List Int)) 0 []) (keep_clear (s := s) (pk := [10, 11]) h4 rfl rfl) rfl) rfl), (hg_4 5 (encO (.at 5 []) (.of ([] : List (List Int)))) (encO (.at 5 []) (.of ([] : List (List Int)))) (hg_3 5 (encO (.at 10 []) (.of ([] : List (List Int)))) (encO (.at 5 []) (.of ([] : List (List Int)))) rfl (map_encO (r := 10) (p := []) rfl rfl)) (map_encO (r := 5) (p := []) rfl rfl)), (hg_4 6 (encO (.at 11 []) (.of ([] : List Int))) (encO (.at 6 []) (.of ([] : List Int))) (hg_3 6 (encO (.at 11 []) (.of ([] : List Int))) (encO (.at 11 []) (.of ([] : List Int))) rfl (map_encO (r := 11) (p := []) rfl rfl)) (map_encO (r := 11) (p := []) rfl rfl))⟩ ?_
  rintro s ⟨h1, h2, h4, h5, h6⟩
  refine .nsq ?_
  refine .seq ?_
  refine .seq ?_
  refine run_reg ?_
  refine e_end ?_
  refine g_v0 (.int .i64 0) rfl rfl ?_
  refine g_end ?_
  refine e_frz (x := 6) (v := (encO (.at 6 []) (.of ([] : List Int)))) [(.at 6 [])] (by exact h6) toks_ownL (fun s_5 hg_5 => ?_)
  refine e_end ?_
  refine renew [(1, (Enc.enc (set_2 : List Int))), (2, (.ref (.bx 2) 0 [] (.agg [(.int .i64 g_1.1), (Enc.enc (g_1.2 : List (Int × Int)))]))), (4, (.sl .nl (Enc.shp (List Int)) 0 [])), (5, (encO (.at 5 []) (.of ([] : List (List Int))))), (6, (Enc.enc ([] : List Int))), (7, (.int .i64 0))] ⟨(hg_5 1 (Enc.enc (set_2 : List Int)) (Enc.enc (set_2 : List Int)) h1 (Enc.frz_enc _ (set_2 : List Int))), (hg_5 2 (.ref (.bx 2) 0 [] (.agg [(.int .i64 g_1.1), (Enc.enc (g_1.2 : List (Int × Int)))])) (.ref (.bx 2) 0 [] (.agg [(.int .i64 g_1.1), (Enc.enc (g_1.2 : List (Int × Int)))])) h2 (frz_ref_ne rfl (frz_agg (frzs_cons rfl (frzs_cons (Enc.frz_enc _ (g_1.2 : List (Int × Int))) rfl))) rfl)), (hg_5 4 (.sl .nl (Enc.shp (List Int)) 0 []) (.sl .nl (Enc.shp (List Int)) 0 []) h4 rfl), (hg_5 5 (encO (.at 5 []) (.of ([] : List (List Int)))) (encO (.at 5 []) (.of ([] : List (List Int)))) h5 (frz_own_ne rfl rfl)), (hg_5 6 (encO (.at 6 []) (.of ([] : List Int))) (Enc.enc ([] : List Int)) h6 frz_own), (hg_5 7 (.int .i64 0) (.int .i64 0) rfl rfl)⟩ ?_
  rintro s ⟨h1, h2, h4, h5, h6, h7⟩
  refine .nsq ?_
  refine .block ?_
  refine .loop ?_
  exact t_f90_l2 H set_2 g_1 F [] [] 0 _ ⟨h1, h2, h4, h5, h6, h7⟩ h
end
def e90 (F : Nat) : Ent := ⟨90, da (fun (x : ((Int × (List (Int × Int))) × (List Int) × Unit)) => s_l2Parts F x.1 x.2.1) (fun (r : (List (List Int))) => (Enc.enc (r : (List (List Int))))), 0, true, selF []⟩
theorem p90 {F : Nat} {x0 : (Int × (List (Int × Int)))} {x1 : (List Int)} {r : (List (List Int))} (h : s_l2Parts F x0 x1 = some r) : (e90 F).den [Enc.enc x0, Enc.enc x1] = some (Enc.enc (r : (List (List Int)))) := da_put (f := fun (x : ((Int × (List (Int × Int))) × (List Int) × Unit)) => s_l2Parts F x.1 x.2.1) (t := fun (r : (List (List Int))) => (Enc.enc (r : (List (List Int))))) (x0, x1, ()) h
theorem o90 {D : Den} {σ : Sig} {F : Nat} (hF : Fits2 Try.prog D σ) (H : H90 D σ F) : (e90 F).Ok Try.prog := by
  refine ⟨fun args r h => ?_, ⟨Try.f90, Try.func90, rfl, rfl⟩⟩
  obtain ⟨⟨x0, x1, _⟩, y, rfl, hy, rfl⟩ := da_open h
  exact contract_run hF (by kernel_rfl) Try.func90 rfl c90 (show 2 ≤ Try.f90.ntmps by decide) (t90 H x0 x1 _ ⟨rfl, rfl⟩ hy)
/- loop.example/g01109/spec.l7Part -/
def A126_2 : AC := (AC.cond (O.t 9) AC.skip (AC.exit 0))
def A126_4 : AC := (AC.cond (O.t 18) (AC.seq (AC.reg [] [(I.mk (some 4) none false (X.v (A.mov (O.k (V.bool false)))))] []) AC.ret) AC.skip)
def A126_5 : AC := (AC.reg [] [(I.mk (some 10) none false (X.v (A.mov (O.t 5)))), (I.mk (some 11) none false (X.v (A.bin BinOp.add (O.t 10) (O.k (V.int IntKind.i64 (Int.ofNat 1)))))), (I.mk (some 5) none false (X.v (A.mov (O.t 11))))] [])
def A126_3 : AC := (AC.seq (AC.block 1 (AC.seq (AC.reg [] [(I.mk (some 12) none false (X.v (A.mov (O.t 1)))), (I.mk (some 13) none false (X.v (A.mov (O.t 0)))), (I.mk (some 14) none false (X.v (A.mov (O.t 5)))), (I.mk (some 15) none false (X.v (A.idx (O.t 13) (O.t 14) 1))), (I.mk (some 16) none false (X.v (A.load Sh.s (O.t 15)))), (I.mk (some 17) none false (X.call (O.k (V.fn 45 [] [])) [(O.t 12), (O.t 16)])), (I.mk (some 18) none false (X.v (A.un UnOp.not (O.t 17))))] []) A126_4)) A126_5)
def A126_1 : AC := (AC.seq (AC.seq (AC.reg [] [(I.mk (some 6) none false (X.v (A.mov (O.t 5)))), (I.mk (some 7) none false (X.v (A.mov (O.t 0)))), (I.mk (some 8) none false (X.v (A.len (O.t 7)))), (I.mk (some 9) none false (X.v (A.bin BinOp.lss (O.t 6) (O.t 8))))] []) A126_2) A126_3)
def A126_6 : AC := (AC.seq (AC.reg [] [(I.mk (some 4) none false (X.v (A.mov (O.k (V.bool true)))))] []) AC.ret)
def A126_8 : AC := (AC.block 0 (AC.loop A126_1))
def A126_7 : AC := (AC.seq (AC.seq (AC.reg [] [(I.mk (some 5) none false (X.v (A.mov (O.k (V.int IntKind.i64 (Int.ofNat 0))))))] []) A126_8) A126_6)
def A126 : AC := (AC.seq (AC.reg [] [(I.mk (some 4) none false (X.v (A.mov (O.k (V.bool false)))))] []) A126_7)
def an126 : List An := []
theorem c126 : cC Try.prog Try.f126.ntmps an126 (Try.f126.body.getD .skip) = some A126 := by kernel_rfl
structure H126 (D : Den) (σ : Sig) (F : Nat) : Prop where
  c45 : ∀ (x0 : (List Int)) (x1 : Int) r, s_l1Has F x0 x1 = some r → D 45 [Enc.enc x0, Enc.enc x1] = some (Enc.enc (r : Bool))
  g45 : σ 45 = some (0, false)
abbrev R126 (r : Bool) : (Nat → V) → Prop := RR Try.prog [.tmp 4] 0 false (Enc.enc (r : Bool))
section
variable {D : Den} {σ : Sig} {F : Nat} {r : Bool}
def s_l7Part_l1 (F : Nat) (a_1 : (List Int)) (b_2 : (List Int))  : Nat → Int → Option Bool
  | 0, _ => none
  | k + 1, i_5 =>
    bif decide (i_5 < (a_1.length : Int)) then
      (idx a_1 i_5).bind fun e_8 =>
      (s_l1Has F b_2 e_8).bind fun r_9 =>
      bif (!r_9) then
        some false
      else
        (s_l7Part_l1 F a_1 b_2 k) (w64 (i_5 + 1))
    else
      some true
theorem t_f126_l1 (H : H126 D σ F) (a_1 : (List Int)) (b_2 : (List Int))  : ∀ (k : Nat) (i_5 : Int) (s : Nat → V), Facts [(0, (Enc.enc (a_1 : List Int))), (1, (Enc.enc (b_2 : List Int))), (4, (.bool false)), (5, (.int .i64 i_5))] s → s_l7Part_l1 F a_1 b_2 k i_5 = some r → Run D σ (R126 r) (.run A126_1 [.lp A126_1, .bk 0, .sq A126_6]) s := by
  intro k
  induction k with
  | zero => intro i_5 s _ h; exact nomatch (h : (none : Option _) = some r)
  | succ k ih =>
    intro i_5 s hs h
    rw [s_l7Part_l1] at h
    obtain ⟨h0, h1, h4, h5⟩ := hs
    refine .seq ?_
    refine .seq ?_
    refine run_reg ?_
    refine e_end ?_
    refine g_v1 (t := 5) (u := (.int .i64 i_5)) (.int .i64 i_5) h5 rfl rfl ?_
    refine g_v1 (t := 0) (u := (Enc.enc (a_1 : List Int))) (Enc.enc (a_1 : List Int)) h0 rfl rfl ?_
    refine g_v (.int .i64 (a_1.length : Int)) (ev_len (xs := a_1) rfl) ?_
    refine g_v2 (t1 := 6) (t2 := 8) (u1 := (.int .i64 i_5)) (u2 := (.int .i64 (a_1.length : Int))) (.bool (decide (i_5 < (a_1.length : Int)))) rfl rfl rfl rfl ?_
    refine g_end ?_
    refine e_end ?_
    refine renew [(0, (Enc.enc (a_1 : List Int))), (1, (Enc.enc (b_2 : List Int))), (4, (.bool false)), (5, (.int .i64 i_5)), (9, (.bool (decide (i_5 < (a_1.length : Int)))))] ⟨h0, h1, h4, h5, rfl⟩ ?_
    rintro s ⟨h0, h1, h4, h5, h9⟩
    refine .nsq ?_
    refine run_cond (t := decide (i_5 < (a_1.length : Int))) h9 h (fun h => ?_) (fun h => ?_)
    · refine .skip ?_
      refine .nsq ?_
      refine .seq ?_
      refine .block ?_
      refine .seq ?_
      refine run_reg ?_
      refine e_end ?_
      refine g_v1 (t := 1) (u := (Enc.enc (b_2 : List Int))) (Enc.enc (b_2 : List Int)) h1 rfl rfl ?_
      refine g_v1 (t := 0) (u := (Enc.enc (a_1 : List Int))) (Enc.enc (a_1 : List Int)) h0 rfl rfl ?_
      refine g_v1 (t := 5) (u := (.int .i64 i_5)) (.int .i64 i_5) h5 rfl rfl ?_
      obtain ⟨e_8, E_e_8, h⟩ := bind_some h
      refine g_v (.ref .sh 0 [] (.int .i64 e_8)) (ev_idx (t := .sh) (lo := 0) (xs := a_1) rfl rfl E_e_8 rfl rfl) ?_
      refine g_v1 (t := 15) (u := (.ref .sh 0 [] (.int .i64 e_8))) (.int .i64 e_8) rfl rfl rfl ?_
      obtain ⟨r_9, E_r_9, h⟩ := bind_some h
      refine g_call (m := 0) (al := false) (r := (Enc.enc (r_9 : Bool))) [Enc.enc (b_2 : (List Int)), Enc.enc (e_8 : Int)] (ta_cons (v := (Enc.enc (b_2 : List Int))) rfl rfl (Enc.erase_enc (b_2 : (List Int))) (ta_cons (v := (.int .i64 e_8)) rfl rfl rfl ta_nil)) (H.c45 _ _ _ E_r_9) H.g45 rfl rfl rfl rfl ?_
      refine g_v1 (t := 17) (u := (.bool r_9)) (.bool (!r_9)) rfl rfl rfl ?_
      refine g_end ?_
      refine e_end ?_
      refine renew [(0, (Enc.enc (a_1 : List Int))), (1, (Enc.enc (b_2 : List Int))), (4, (.bool false)), (5, (.int .i64 i_5)), (18, (.bool (!r_9)))] ⟨h0, h1, h4, h5, rfl⟩ ?_
      rintro s ⟨h0, h1, h4, h5, h18⟩
      refine .nsq ?_
      refine run_cond (t := (!r_9)) h18 h (fun h => ?_) (fun h => ?_)
      · refine .seq ?_
        refine run_reg ?_
        refine e_end ?_
        refine g_v0 (.bool false) rfl rfl ?_
        refine g_end ?_
        refine e_end ?_
        refine renew [(0, (Enc.enc (a_1 : List Int))), (1, (Enc.enc (b_2 : List Int))), (4, (.bool false)), (5, (.int .i64 i_5))] ⟨h0, h1, rfl, h5⟩ ?_
        rintro s ⟨h0, h1, h4, h5⟩
        refine .nsq ?_
        refine .ret ?_
        have hr := Option.some.inj h
        subst hr
        exact rrA (res_tmp h4) rfl
      · refine .skip ?_
        refine .nbk ?_
        refine .nsq ?_
        refine run_reg ?_
        refine e_end ?_
        refine g_v1 (t := 5) (u := (.int .i64 i_5)) (.int .i64 i_5) h5 rfl rfl ?_
        refine g_v1 (t := 10) (u := (.int .i64 i_5)) (.int .i64 (w64 (i_5 + 1))) rfl rfl rfl ?_
        refine g_v1 (t := 11) (u := (.int .i64 (w64 (i_5 + 1)))) (.int .i64 (w64 (i_5 + 1))) rfl rfl rfl ?_
        refine g_end ?_
        refine e_end ?_
        refine renew [(0, (Enc.enc (a_1 : List Int))), (1, (Enc.enc (b_2 : List Int))), (4, (.bool false)), (5, (.int .i64 (w64 (i_5 + 1))))] ⟨h0, h1, h4, rfl⟩ ?_
        rintro s ⟨h0, h1, h4, h5⟩
        refine .nlp ?_
        exact ih (w64 (i_5 + 1)) _ ⟨h0, h1, h4, h5⟩ h
    · refine .exit ?_
      refine .esq ?_
      refine .elp ?_
      refine .ebk ?_
      refine .nsq ?_
      refine .seq ?_
      refine run_reg ?_
      refine e_end ?_
      refine g_v0 (.bool true) rfl rfl ?_
      refine g_end ?_
      refine e_end ?_
      refine renew [(4, (.bool true))] rfl ?_
      rintro s h4
      refine .nsq ?_
      refine .ret ?_
      have hr := Option.some.inj h
      subst hr
      exact rrA (res_tmp h4) rfl
def s_l7Part (F : Nat) (a_1 : (List Int)) (b_2 : (List Int)) : Option Bool :=
  s_l7Part_l1 F a_1 b_2 F 0
theorem t126 (H : H126 D σ F) (a_1 : (List Int)) (b_2 : (List Int)) (s : Nat → V) (hs : Facts [(0, (Enc.enc (a_1 : List Int))), (1, (Enc.enc (b_2 : List Int)))] s) (h : s_l7Part F a_1 b_2 = some r) : Run D σ (R126 r) (.run A126 []) s := by
  unfold s_l7Part at h
  obtain ⟨h0, h1⟩ := hs
  refine .seq ?_
  refine run_reg ?_
  refine e_end ?_
  refine g_v0 (.bool false) rfl rfl ?_
  refine g_end ?_
  refine e_end ?_
  refine renew [(0, (Enc.enc (a_1 : List Int))), (1, (Enc.enc (b_2 : List Int))), (4, (.bool false))] ⟨h0, h1, rfl⟩ ?_
  rintro s ⟨h0, h1, h4⟩
  refine .nsq ?_
  refine .seq ?_
  refine .seq ?_
  refine run_reg ?_
  refine e_end ?_
  refine g_v0 (.int .i64 0) rfl rfl ?_
  refine g_end ?_
  refine e_end ?_
  refine renew [(0, (Enc.enc (a_1 : List Int))), (1, (Enc.enc (b_2 : List Int))), (4, (.bool false)), (5, (.int .i64 0))] ⟨h0, h1, h4, rfl⟩ ?_
  rintro s ⟨h0, h1, h4, h5⟩
  refine .nsq ?_
  refine .block ?_
  refine .loop ?_
  exact t_f126_l1 H a_1 b_2 F 0 _ ⟨h0, h1, h4, h5⟩ h
end
def e126 (F : Nat) : Ent := ⟨126, da (fun (x : ((List Int) × (List Int) × Unit)) => s_l7Part F x.1 x.2.1) (fun (r : Bool) => (Enc.enc (r : Bool))), 0, false, selF []⟩
theorem p126 {F : Nat} {x0 : (List Int)} {x1 : (List Int)} {r : Bool} (h : s_l7Part F x0 x1 = some r) : (e126 F).den [Enc.enc x0, Enc.enc x1] = some (Enc.enc (r : Bool)) := da_put (f := fun (x : ((List Int) × (List Int) × Unit)) => s_l7Part F x.1 x.2.1) (t := fun (r : Bool) => (Enc.enc (r : Bool))) (x0, x1, ()) h
theorem o126 {D : Den} {σ : Sig} {F : Nat} (hF : Fits2 Try.prog D σ) (H : H126 D σ F) : (e126 F).Ok Try.prog := by
  refine ⟨fun args r h => ?_, ⟨Try.f126, Try.func126, rfl, rfl⟩⟩
  obtain ⟨⟨x0, x1, _⟩, y, rfl, hy, rfl⟩ := da_open h
  exact contract_run hF (by kernel_rfl) Try.func126 rfl c126 (show 2 ≤ Try.f126.ntmps by decide) (t126 H x0 x1 _ ⟨rfl, rfl⟩ hy)
/- loop.example/g01109/spec.l7Entry -/
def A102_2 : AC := (AC.cond (O.t 50) AC.skip (AC.exit 0))
def A102_4 : AC := (AC.cond (O.t 64) (AC.seq (AC.reg [] [(I.mk (some 6) none false (X.v (A.mov (O.k (V.bool false)))))] []) AC.ret) AC.skip)
def A102_7 : AC := (AC.cond (O.t 96) (AC.seq (AC.reg [] [(I.mk (some 6) none false (X.v (A.mov (O.k (V.bool false)))))] []) AC.ret) AC.skip)
def A102_6 : AC := (AC.seq (AC.reg [] [(I.mk (some 73) none false (X.v (A.fld (O.t 9) 1 1))), (I.mk (some 74) none false (X.v (A.load Sh.s (O.t 73)))), (I.mk (some 75) none false (X.v (A.fld (O.t 7) 1 1))), (I.mk (some 76) none false (X.v (A.load Sh.s (O.t 75)))), (I.mk (some 77) none false (X.v (A.bin BinOp.sub (O.t 76) (O.k (V.int IntKind.i64 (Int.ofNat 1)))))), (I.mk (some 78) none false (X.v (A.bin BinOp.neq (O.t 74) (O.t 77)))), (I.mk (some 79) none false (X.v (A.mov (O.t 78)))), (I.mk (some 80) (some (79, false)) false (X.v (A.fld (O.t 9) 0 0))), (I.mk (some 81) (some (79, false)) false (X.v (A.load Sh.p (O.t 80)))), (I.mk (some 82) (some (79, false)) false (X.v (A.fld (O.t 7) 0 0))), (I.mk (some 83) (some (79, false)) false (X.v (A.load Sh.p (O.t 82)))), (I.mk (some 84) (some (79, false)) false (X.call (O.k (V.fn 126 [] [])) [(O.t 81), (O.t 83)])), (I.mk (some 85) (some (79, false)) false (X.v (A.un UnOp.not (O.t 84)))), (I.mk (some 86) none false (X.v (A.pick (O.t 79) (O.k (V.bool true)) (O.t 85)))), (I.mk (some 87) none false (X.v (A.mov (O.t 86)))), (I.mk (some 88) (some (87, false)) false (X.v (A.fld (O.t 9) 0 0))), (I.mk (some 89) (some (87, false)) false (X.v (A.load Sh.p (O.t 88)))), (I.mk (some 90) (some (87, false)) false (X.v (A.fld (O.t 7) 0 0))), (I.mk (some 91) (some (87, false)) false (X.v (A.load Sh.p (O.t 90)))), (I.mk (some 92) (some (87, false)) false (X.v (A.mov (O.t 8)))), (I.mk (some 93) (some (87, false)) false (X.v (A.idx (O.t 91) (O.t 92) 1))), (I.mk (some 94) (some (87, false)) false (X.v (A.load Sh.s (O.t 93)))), (I.mk (some 95) (some (87, false)) false (X.call (O.k (V.fn 45 [] [])) [(O.t 89), (O.t 94)])), (I.mk (some 96) none false (X.v (A.pick (O.t 87) (O.k (V.bool true)) (O.t 95))))] []) A102_7)
def A102_5 : AC := (AC.seq (AC.reg [.clr [9]] [(I.mk (some 65) none false (X.v (A.mov (O.t 1)))), (I.mk (some 66) none false (X.v (A.fld (O.t 7) 2 2))), (I.mk (some 67) none false (X.v (A.load Sh.p (O.t 66)))), (I.mk (some 68) none false (X.v (A.mov (O.t 8)))), (I.mk (some 69) none false (X.v (A.idx (O.t 67) (O.t 68) 1))), (I.mk (some 70) none false (X.v (A.load Sh.s (O.t 69)))), (I.mk (some 71) none false (X.v (A.idx (O.t 65) (O.t 70) 3))), (I.mk (some 72) none false (X.v (A.load (Sh.ag [Sh.p, Sh.s, Sh.p]) (O.t 71)))), (I.mk (some 9) none false (X.alloc (V.agg [(V.sl Tok.nl Sh.s 0 []), (V.int IntKind.i64 (Int.ofNat 0)), (V.sl Tok.nl Sh.s 0 [])]))), (I.mk none none false (X.store (Sh.ag [Sh.p, Sh.s, Sh.p]) (O.t 9) (O.t 72)))] []) A102_6)
def A102_8 : AC := (AC.reg [] [(I.mk (some 51) none false (X.v (A.mov (O.t 8)))), (I.mk (some 52) none false (X.v (A.bin BinOp.add (O.t 51) (O.k (V.int IntKind.i64 (Int.ofNat 1)))))), (I.mk (some 8) none false (X.v (A.mov (O.t 52))))] [])
def A102_3 : AC := (AC.seq (AC.block 1 (AC.seq (AC.seq (AC.reg [] [(I.mk (some 53) none false (X.v (A.fld (O.t 7) 2 2))), (I.mk (some 54) none false (X.v (A.load Sh.p (O.t 53)))), (I.mk (some 55) none false (X.v (A.mov (O.t 8)))), (I.mk (some 56) none false (X.v (A.idx (O.t 54) (O.t 55) 1))), (I.mk (some 57) none false (X.v (A.load Sh.s (O.t 56)))), (I.mk (some 58) none false (X.v (A.mov (O.t 2)))), (I.mk (some 59) none false (X.v (A.bin BinOp.add (O.t 58) (O.k (V.int IntKind.i64 (Int.ofNat 1)))))), (I.mk (some 60) none false (X.v (A.mov (O.t 1)))), (I.mk (some 61) none false (X.v (A.len (O.t 60)))), (I.mk (some 62) none false (X.v (A.bin BinOp.sub (O.t 61) (O.k (V.int IntKind.i64 (Int.ofNat 1)))))), (I.mk (some 63) none false (X.call (O.k (V.fn 65 [] [])) [(O.t 57), (O.t 59), (O.t 62)])), (I.mk (some 64) none false (X.v (A.un UnOp.not (O.t 63))))] []) A102_4) A102_5)) A102_8)
def A102_1 : AC := (AC.seq (AC.seq (AC.reg [] [(I.mk (some 39) none false (X.v (A.mov (O.t 8)))), (I.mk (some 40) none false (X.v (A.fld (O.t 7) 2 2))), (I.mk (some 41) none false (X.v (A.load Sh.p (O.t 40)))), (I.mk (some 42) none false (X.v (A.len (O.t 41)))), (I.mk (some 43) none false (X.v (A.bin BinOp.lss (O.t 39) (O.t 42)))), (I.mk (some 44) none false (X.v (A.mov (O.t 43)))), (I.mk (some 45) (some (44, true)) false (X.v (A.mov (O.t 8)))), (I.mk (some 46) (some (44, true)) false (X.v (A.fld (O.t 7) 0 0))), (I.mk (some 47) (some (44, true)) false (X.v (A.load Sh.p (O.t 46)))), (I.mk (some 48) (some (44, true)) false (X.v (A.len (O.t 47)))), (I.mk (some 49) (some (44, true)) false (X.v (A.bin BinOp.lss (O.t 45) (O.t 48)))), (I.mk (some 50) none false (X.v (A.pick (O.t 44) (O.t 49) (O.k (V.bool false)))))] []) A102_2) A102_3)
def A102_9 : AC := (AC.seq (AC.reg [] [(I.mk (some 97) none false (X.v (A.fld (O.t 7) 2 2))), (I.mk (some 98) none false (X.v (A.load Sh.p (O.t 97)))), (I.mk (some 99) none false (X.v (A.len (O.t 98)))), (I.mk (some 100) none false (X.v (A.fld (O.t 7) 0 0))), (I.mk (some 101) none false (X.v (A.load Sh.p (O.t 100)))), (I.mk (some 102) none false (X.v (A.len (O.t 101)))), (I.mk (some 103) none false (X.v (A.bin BinOp.eql (O.t 99) (O.t 102)))), (I.mk (some 6) none false (X.v (A.mov (O.t 103))))] []) AC.ret)
def A102_10 : AC := (AC.cond (O.t 31) (AC.seq (AC.reg [] [(I.mk (some 6) none false (X.v (A.mov (O.k (V.bool false)))))] []) AC.ret) AC.skip)
def A102_12 : AC := (AC.cond (O.t 34) (AC.seq (AC.reg [] [(I.mk (some 35) none false (X.v (A.fld (O.t 7) 2 2))), (I.mk (some 36) none false (X.v (A.load Sh.p (O.t 35)))), (I.mk (some 37) none false (X.v (A.len (O.t 36)))), (I.mk (some 38) none false (X.v (A.bin BinOp.eql (O.t 37) (O.k (V.int IntKind.i64 (Int.ofNat 0)))))), (I.mk (some 6) none false (X.v (A.mov (O.t 38))))] []) AC.ret) AC.skip)
def A102_14 : AC := (AC.block 0 (AC.loop A102_1))
def A102_13 : AC := (AC.seq (AC.seq (AC.reg [] [(I.mk (some 8) none false (X.v (A.mov (O.k (V.int IntKind.i64 (Int.ofNat 0))))))] []) A102_14) A102_9)
def A102_11 : AC := (AC.seq (AC.seq (AC.reg [] [(I.mk (some 32) none false (X.v (A.fld (O.t 7) 1 1))), (I.mk (some 33) none false (X.v (A.load Sh.s (O.t 32)))), (I.mk (some 34) none false (X.v (A.bin BinOp.eql (O.t 33) (O.k (V.int IntKind.i64 (Int.ofNat 1))))))] []) A102_12) A102_13)
def A102_16 : AC := (AC.seq (AC.seq (AC.reg [] [(I.mk (some 14) none false (X.v (A.load (Sh.ag [Sh.s, Sh.p]) (O.t 3)))), (I.mk (some 15) none false (X.v (A.fld (O.t 7) 0 0))), (I.mk (some 16) none false (X.v (A.load Sh.p (O.t 15)))), (I.mk (some 17) none false (X.call (O.k (V.fn 89 [] [])) [(O.t 14), (O.t 16)])), (I.mk (some 18) none false (X.v (A.un UnOp.not (O.t 17)))), (I.mk (some 19) none false (X.v (A.mov (O.t 18)))), (I.mk (some 20) (some (19, false)) false (X.v (A.load (Sh.ag [Sh.s, Sh.p]) (O.t 3)))), (I.mk (some 21) (some (19, false)) false (X.v (A.fld (O.t 7) 0 0))), (I.mk (some 22) (some (19, false)) false (X.v (A.load Sh.p (O.t 21)))), (I.mk (some 23) (some (19, false)) false (X.call (O.k (V.fn 90 [] [])) [(O.t 20), (O.t 22)])), (I.mk (some 24) (some (19, false)) false (X.v (A.len (O.t 23)))), (I.mk (some 25) (some (19, false)) false (X.v (A.bin BinOp.neq (O.t 24) (O.k (V.int IntKind.i64 (Int.ofNat 1)))))), (I.mk (some 26) none false (X.v (A.pick (O.t 19) (O.k (V.bool true)) (O.t 25)))), (I.mk (some 27) none false (X.v (A.mov (O.t 26)))), (I.mk (some 28) (some (27, false)) false (X.v (A.fld (O.t 7) 1 1))), (I.mk (some 29) (some (27, false)) false (X.v (A.load Sh.s (O.t 28)))), (I.mk (some 30) (some (27, false)) false (X.v (A.bin BinOp.lss (O.t 29) (O.k (V.int IntKind.i64 (Int.ofNat 1)))))), (I.mk (some 31) none false (X.v (A.pick (O.t 27) (O.k (V.bool true)) (O.t 30))))] []) A102_10) A102_11)
def A102_15 : AC := (AC.seq (AC.reg [.clr [7]] [(I.mk (some 10) none false (X.v (A.mov (O.t 1)))), (I.mk (some 11) none false (X.v (A.mov (O.t 2)))), (I.mk (some 12) none false (X.v (A.idx (O.t 10) (O.t 11) 3))), (I.mk (some 13) none false (X.v (A.load (Sh.ag [Sh.p, Sh.s, Sh.p]) (O.t 12)))), (I.mk (some 7) none false (X.alloc (V.agg [(V.sl Tok.nl Sh.s 0 []), (V.int IntKind.i64 (Int.ofNat 0)), (V.sl Tok.nl Sh.s 0 [])]))), (I.mk none none false (X.store (Sh.ag [Sh.p, Sh.s, Sh.p]) (O.t 7) (O.t 13)))] []) A102_16)
def A102 : AC := (AC.seq (AC.reg [.clr [3]] [(I.mk (some 3) none false (X.box (O.t 0))), (I.mk (some 6) none false (X.v (A.mov (O.k (V.bool false)))))] []) A102_15)
def an102 : List An := [{ id := 0, pre := [.clr [3]], ep := [], lin := [], sp := [] }, { id := 1, pre := [.clr [7]], ep := [], lin := [], sp := [] }, { id := 11, pre := [.clr [9]], ep := [], lin := [], sp := [] }]
theorem c102 : cC Try.prog Try.f102.ntmps an102 (Try.f102.body.getD .skip) = some A102 := by kernel_rfl
structure H102 (D : Den) (σ : Sig) (F : Nat) : Prop where
  c89 : ∀ (x0 : (Int × (List (Int × Int)))) (x1 : (List Int)) r, s_l2Set F x0 x1 = some r → D 89 [Enc.enc x0, Enc.enc x1] = some (Enc.enc (r : Bool))
  g89 : σ 89 = some (0, false)
  c90 : ∀ (x0 : (Int × (List (Int × Int)))) (x1 : (List Int)) r, s_l2Parts F x0 x1 = some r → D 90 [Enc.enc x0, Enc.enc x1] = some (Enc.enc (r : (List (List Int))))
  g90 : σ 90 = some (0, true)
  c65 : ∀ (x0 : Int) (x1 : Int) (x2 : Int) r, s_l1In F x0 x1 x2 = some r → D 65 [Enc.enc x0, Enc.enc x1, Enc.enc x2] = some (Enc.enc (r : Bool))
  g65 : σ 65 = some (0, false)
  c126 : ∀ (x0 : (List Int)) (x1 : (List Int)) r, s_l7Part F x0 x1 = some r → D 126 [Enc.enc x0, Enc.enc x1] = some (Enc.enc (r : Bool))
  g126 : σ 126 = some (0, false)
  c45 : ∀ (x0 : (List Int)) (x1 : Int) r, s_l1Has F x0 x1 = some r → D 45 [Enc.enc x0, Enc.enc x1] = some (Enc.enc (r : Bool))
  g45 : σ 45 = some (0, false)
abbrev R102 (r : Bool) : (Nat → V) → Prop := RR Try.prog [.tmp 6] 0 false (Enc.enc (r : Bool))
section
variable {D : Den} {σ : Sig} {F : Nat} {r : Bool}
def s_l7Entry_j1 (F : Nat) (proof_2 : (List (S3 (List Int) Int (List Int)))) (at_3 : Int) (e_4 : (S3 (List Int) Int (List Int))) (i_20 : Int) (c1 : Int → Option Bool) (t96_41 : Bool) : Option Bool :=
  bif t96_41 then
    some false
  else
    c1 (w64 (i_20 + 1))
theorem t_f102_j1 (H : H102 D σ F) (proof_2 : (List (S3 (List Int) Int (List Int)))) (at_3 : Int) (e_4 : (S3 (List Int) Int (List Int))) (i_20 : Int) (c1 : Int → Option Bool) (Hc1 : ∀ (i_20 : Int) (s : Nat → V), Facts [(1, (Enc.enc (proof_2 : List (S3 (List Int) Int (List Int))))), (2, (.int .i64 at_3)), (6, (.bool false)), (7, (.ref (.bx 7) 0 [] (.agg [(Enc.enc (e_4.a : List Int)), (.int .i64 e_4.b), (Enc.enc (e_4.c : List Int))]))), (8, (.int .i64 i_20))] s → c1 i_20 = some r → Run D σ (R102 r) (.run A102_1 [.lp A102_1, .bk 0, .sq A102_9]) s) (t96_41 : Bool) (s : Nat → V) (hs : Facts [(1, (Enc.enc (proof_2 : List (S3 (List Int) Int (List Int))))), (2, (.int .i64 at_3)), (6, (.bool false)), (7, (.ref (.bx 7) 0 [] (.agg [(Enc.enc (e_4.a : List Int)), (.int .i64 e_4.b), (Enc.enc (e_4.c : List Int))]))), (8, (.int .i64 i_20)), (96, (.bool t96_41))] s) (h : s_l7Entry_j1 F proof_2 at_3 e_4 i_20 c1 t96_41 = some r) : Run D σ (R102 r) (.nrm [.sq A102_7, .bk 1, .sq A102_8, .lp A102_1, .bk 0, .sq A102_9]) s := by
  unfold s_l7Entry_j1 at h
  obtain ⟨h1, h2, h6, h7, h8, h96⟩ := hs
  refine .nsq ?_
  refine run_cond (t := t96_41) h96 h (fun h => ?_) (fun h => ?_)
  · refine .seq ?_
    refine run_reg ?_
    refine e_end ?_
    refine g_v0 (.bool false) rfl rfl ?_
    refine g_end ?_
    refine e_end ?_
    refine renew [(1, (Enc.enc (proof_2 : List (S3 (List Int) Int (List Int))))), (2, (.int .i64 at_3)), (6, (.bool false)), (7, (.ref (.bx 7) 0 [] (.agg [(Enc.enc (e_4.a : List Int)), (.int .i64 e_4.b), (Enc.enc (e_4.c : List Int))]))), (8, (.int .i64 i_20))] ⟨h1, h2, rfl, h7, h8⟩ ?_
    rintro s ⟨h1, h2, h6, h7, h8⟩
    refine .nsq ?_
    refine .ret ?_
    have hr := Option.some.inj h
    subst hr
    exact rrA (res_tmp h6) rfl
  · refine .skip ?_
    refine .nbk ?_
    refine .nsq ?_
    refine run_reg ?_
    refine e_end ?_
    refine g_v1 (t := 8) (u := (.int .i64 i_20)) (.int .i64 i_20) h8 rfl rfl ?_
    refine g_v1 (t := 51) (u := (.int .i64 i_20)) (.int .i64 (w64 (i_20 + 1))) rfl rfl rfl ?_
    refine g_v1 (t := 52) (u := (.int .i64 (w64 (i_20 + 1)))) (.int .i64 (w64 (i_20 + 1))) rfl rfl rfl ?_
    refine g_end ?_
    refine e_end ?_
    refine renew [(1, (Enc.enc (proof_2 : List (S3 (List Int) Int (List Int))))), (2, (.int .i64 at_3)), (6, (.bool false)), (7, (.ref (.bx 7) 0 [] (.agg [(Enc.enc (e_4.a : List Int)), (.int .i64 e_4.b), (Enc.enc (e_4.c : List Int))]))), (8, (.int .i64 (w64 (i_20 + 1))))] ⟨h1, h2, h6, h7, rfl⟩ ?_
    rintro s ⟨h1, h2, h6, h7, h8⟩
    refine .nlp ?_
    exact Hc1 (w64 (i_20 + 1)) _ ⟨h1, h2, h6, h7, h8⟩ h
def s_l7Entry_j2 (F : Nat) (proof_2 : (List (S3 (List Int) Int (List Int)))) (at_3 : Int) (e_4 : (S3 (List Int) Int (List Int))) (i_20 : Int) (c1 : Int → Option Bool) (t50_33 : Bool) : Option Bool :=
  bif t50_33 then
    (idx e_4.c i_20).bind fun e_34 =>
    (s_l1In F e_34 (w64 (at_3 + 1)) (w64 ((proof_2.length : Int) - 1))).bind fun r_35 =>
    bif (!r_35) then
      some false
    else
      (idx e_4.c i_20).bind fun e_36 =>
      (idx proof_2 e_36).bind fun e_37 =>
      bif (e_37.b != (w64 (e_4.b - 1))) then
        s_l7Entry_j1 F proof_2 at_3 e_4 i_20 c1 true
      else
        (s_l7Part F e_37.a e_4.a).bind fun r_42 =>
        bif (!r_42) then
          s_l7Entry_j1 F proof_2 at_3 e_4 i_20 c1 true
        else
          (idx e_4.a i_20).bind fun e_43 =>
          (s_l1Has F e_37.a e_43).bind fun r_44 =>
          s_l7Entry_j1 F proof_2 at_3 e_4 i_20 c1 r_44
  else
    some ((e_4.c.length : Int) == (e_4.a.length : Int))
theorem t_f102_j2 (H : H102 D σ F) (proof_2 : (List (S3 (List Int) Int (List Int)))) (at_3 : Int) (e_4 : (S3 (List Int) Int (List Int))) (i_20 : Int) (c1 : Int → Option Bool) (Hc1 : ∀ (i_20 : Int) (s : Nat → V), Facts [(1, (Enc.enc (proof_2 : List (S3 (List Int) Int (List Int))))), (2, (.int .i64 at_3)), (6, (.bool false)), (7, (.ref (.bx 7) 0 [] (.agg [(Enc.enc (e_4.a : List Int)), (.int .i64 e_4.b), (Enc.enc (e_4.c : List Int))]))), (8, (.int .i64 i_20))] s → c1 i_20 = some r → Run D σ (R102 r) (.run A102_1 [.lp A102_1, .bk 0, .sq A102_9]) s) (t50_33 : Bool) (s : Nat → V) (hs : Facts [(1, (Enc.enc (proof_2 : List (S3 (List Int) Int (List Int))))), (2, (.int .i64 at_3)), (6, (.bool false)), (7, (.ref (.bx 7) 0 [] (.agg [(Enc.enc (e_4.a : List Int)), (.int .i64 e_4.b), (Enc.enc (e_4.c : List Int))]))), (8, (.int .i64 i_20)), (50, (.bool t50_33))] s) (h : s_l7Entry_j2 F proof_2 at_3 e_4 i_20 c1 t50_33 = some r) : Run D σ (R102 r) (.nrm [.sq A102_2, .sq A102_3, .lp A102_1, .bk 0, .sq A102_9]) s := by
  unfold s_l7Entry_j2 at h
  obtain ⟨h1, h2, h6, h7, h8, h50⟩ := hs
  refine .nsq ?_
  refine run_cond (t := t50_33) h50 h (fun h => ?_) (fun h => ?_)
  · refine .skip ?_
    refine .nsq ?_
    refine .seq ?_
    refine .block ?_
    refine .seq ?_
    refine .seq ?_
    refine run_reg ?_
    refine e_end ?_
    refine g_v1 (t := 7) (u := (.ref (.bx 7) 0 [] (.agg [(Enc.enc (e_4.a : List Int)), (.int .i64 e_4.b), (Enc.enc (e_4.c : List Int))]))) (.ref (.bx 7) 0 [2] (Enc.enc (e_4.c : List Int))) h7 rfl rfl ?_
    refine g_v1 (t := 53) (u := (.ref (.bx 7) 0 [2] (Enc.enc (e_4.c : List Int)))) (Enc.enc (e_4.c : List Int)) rfl rfl rfl ?_
    refine g_v1 (t := 8) (u := (.int .i64 i_20)) (.int .i64 i_20) h8 rfl rfl ?_
    obtain ⟨e_34, E_e_34, h⟩ := bind_some h
    refine g_v (.ref .sh 0 [] (.int .i64 e_34)) (ev_idx (t := .sh) (lo := 0) (xs := e_4.c) rfl rfl E_e_34 rfl rfl) ?_
    refine g_v1 (t := 56) (u := (.ref .sh 0 [] (.int .i64 e_34))) (.int .i64 e_34) rfl rfl rfl ?_
    refine g_v1 (t := 2) (u := (.int .i64 at_3)) (.int .i64 at_3) h2 rfl rfl ?_
    refine g_v1 (t := 58) (u := (.int .i64 at_3)) (.int .i64 (w64 (at_3 + 1))) rfl rfl rfl ?_
    refine g_v1 (t := 1) (u := (Enc.enc (proof_2 : List (S3 (List Int) Int (List Int))))) (Enc.enc (proof_2 : List (S3 (List Int) Int (List Int)))) h1 rfl rfl ?_
    refine g_v (.int .i64 (proof_2.length : Int)) (ev_len (xs := proof_2) rfl) ?_
    refine g_v1 (t := 61) (u := (.int .i64 (proof_2.length : Int))) (.int .i64 (w64 ((proof_2.length : Int) - 1))) rfl rfl rfl ?_
    obtain ⟨r_35, E_r_35, h⟩ := bind_some h
    refine g_call (m := 0) (al := false) (r := (Enc.enc (r_35 : Bool))) [Enc.enc (e_34 : Int), Enc.enc (w64 (at_3 + 1) : Int), Enc.enc (w64 ((proof_2.length : Int) - 1) : Int)] (ta_cons (v := (.int .i64 e_34)) rfl rfl rfl (ta_cons (v := (.int .i64 (w64 (at_3 + 1)))) rfl rfl rfl (ta_cons (v := (.int .i64 (w64 ((proof_2.length : Int) - 1)))) rfl rfl rfl ta_nil))) (H.c65 _ _ _ _ E_r_35) H.g65 rfl rfl rfl rfl ?_
    refine g_v1 (t := 63) (u := (.bool r_35)) (.bool (!r_35)) rfl rfl rfl ?_
    refine g_end ?_
    refine e_end ?_
    refine renew [(1, (Enc.enc (proof_2 : List (S3 (List Int) Int (List Int))))), (2, (.int .i64 at_3)), (6, (.bool false)), (7, (.ref (.bx 7) 0 [] (.agg [(Enc.enc (e_4.a : List Int)), (.int .i64 e_4.b), (Enc.enc (e_4.c : List Int))]))), (8, (.int .i64 i_20)), (64, (.bool (!r_35)))] ⟨h1, h2, h6, h7, h8, rfl⟩ ?_
    rintro s ⟨h1, h2, h6, h7, h8, h64⟩
    refine .nsq ?_
    refine run_cond (t := (!r_35)) h64 h (fun h => ?_) (fun h => ?_)
    · refine .seq ?_
      refine run_reg ?_
      refine e_end ?_
      refine g_v0 (.bool false) rfl rfl ?_
      refine g_end ?_
      refine e_end ?_
      refine renew [(1, (Enc.enc (proof_2 : List (S3 (List Int) Int (List Int))))), (2, (.int .i64 at_3)), (6, (.bool false)), (7, (.ref (.bx 7) 0 [] (.agg [(Enc.enc (e_4.a : List Int)), (.int .i64 e_4.b), (Enc.enc (e_4.c : List Int))]))), (8, (.int .i64 i_20))] ⟨h1, h2, rfl, h7, h8⟩ ?_
      rintro s ⟨h1, h2, h6, h7, h8⟩
      refine .nsq ?_
      refine .ret ?_
      have hr := Option.some.inj h
      subst hr
      exact rrA (res_tmp h6) rfl
    · refine .skip ?_
      refine .nsq ?_
      refine .seq ?_
      refine run_reg ?_
      refine e_clr ?_
      refine e_end ?_
      refine g_v1 (t := 1) (u := (Enc.enc (proof_2 : List (S3 (List Int) Int (List Int))))) (Enc.enc (proof_2 : List (S3 (List Int) Int (List Int)))) (keep_clear (s := s) (pk := [9]) h1 rfl (Enc.map_enc _ (proof_2 : List (S3 (List Int) Int (List Int))))) rfl rfl ?_
      refine g_v1 (t := 7) (u := (.ref (.bx 7) 0 [] (.agg [(Enc.enc (e_4.a : List Int)), (.int .i64 e_4.b), (Enc.enc (e_4.c : List Int))]))) (.ref (.bx 7) 0 [2] (Enc.enc (e_4.c : List Int))) (keep_clear (s := s) (pk := [9]) h7 rfl (map_bx rfl (map_agg (maps_cons (Enc.map_enc _ (e_4.a : List Int)) (maps_cons rfl (maps_cons (Enc.map_enc _ (e_4.c : List Int)) maps_nil)))))) rfl rfl ?_
      refine g_v1 (t := 66) (u := (.ref (.bx 7) 0 [2] (Enc.enc (e_4.c : List Int)))) (Enc.enc (e_4.c : List Int)) rfl rfl rfl ?_
      refine g_v1 (t := 8) (u := (.int .i64 i_20)) (.int .i64 i_20) (keep_clear (s := s) (pk := [9]) h8 rfl rfl) rfl rfl ?_
      obtain ⟨e_36, E_e_36, h⟩ := bind_some h
      refine g_v (.ref .sh 0 [] (.int .i64 e_36)) (ev_idx (t := .sh) (lo := 0) (xs := e_4.c) rfl rfl E_e_36 rfl rfl) ?_
      refine g_v1 (t := 69) (u := (.ref .sh 0 [] (.int .i64 e_36))) (.int .i64 e_36) rfl rfl rfl ?_
      obtain ⟨e_37, E_e_37, h⟩ := bind_some h
      refine g_v (.ref .sh 0 [] (.agg [(Enc.enc (e_37.a : List Int)), (.int .i64 e_37.b), (Enc.enc (e_37.c : List Int))])) (ev_idx (t := .sh) (lo := 0) (xs := proof_2) rfl rfl E_e_37 rfl rfl) ?_
      refine g_v1 (t := 71) (u := (.ref .sh 0 [] (.agg [(Enc.enc (e_37.a : List Int)), (.int .i64 e_37.b), (Enc.enc (e_37.c : List Int))]))) (.agg [(Enc.enc (e_37.a : List Int)), (.int .i64 e_37.b), (Enc.enc (e_37.c : List Int))]) rfl rfl rfl ?_
      refine g_alloc (gone_clear (s := s) (pk := [9]) (t := 9) rfl) ?_
      refine g_store (.agg [(Enc.enc (e_37.a : List Int)), (.int .i64 e_37.b), (Enc.enc (e_37.c : List Int))]) (rd_of rfl rfl) (rd_of rfl rfl) (by refine ⟨by decide, by decide, rfl, rfl, rfl, ?_⟩; first | rfl | simp [V.toks, V.tokss, Enc.toks_enc]) ?_
      refine g_end ?_
      refine e_end ?_
      refine renew [(1, (Enc.enc (proof_2 : List (S3 (List Int) Int (List Int))))), (2, (.int .i64 at_3)), (6, (.bool false)), (7, (.ref (.bx 7) 0 [] (.agg [(Enc.enc (e_4.a : List Int)), (.int .i64 e_4.b), (Enc.enc (e_4.c : List Int))]))), (8, (.int .i64 i_20)), (9, (.ref (.bx 9) 0 [] (.agg [(Enc.enc (e_37.a : List Int)), (.int .i64 e_37.b), (Enc.enc (e_37.c : List Int))])))] ⟨(keep_mut (keep_clear (s := s) (pk := [9]) h1 rfl (Enc.map_enc _ (proof_2 : List (S3 (List Int) Int (List Int))))) (Enc.mut_enc _ _ _ _ (proof_2 : List (S3 (List Int) Int (List Int))))), (keep_mut (keep_clear (s := s) (pk := [9]) h2 rfl rfl) rfl), (keep_mut (keep_clear (s := s) (pk := [9]) h6 rfl rfl) rfl), (keep_mut (keep_clear (s := s) (pk := [9]) h7 rfl (map_bx rfl (map_agg (maps_cons (Enc.map_enc _ (e_4.a : List Int)) (maps_cons rfl (maps_cons (Enc.map_enc _ (e_4.c : List Int)) maps_nil)))))) (mut_ref_ne rfl rfl (mut_agg (muts_cons (Enc.mut_enc _ _ _ _ (e_4.a : List Int)) (muts_cons rfl (muts_cons (Enc.mut_enc _ _ _ _ (e_4.c : List Int)) rfl)))))), (keep_mut (keep_clear (s := s) (pk := [9]) h8 rfl rfl) rfl), (keep_mut rfl rfl)⟩ ?_
      rintro s ⟨h1, h2, h6, h7, h8, h9⟩
      refine .nsq ?_
      refine .seq ?_
      refine run_reg ?_
      refine e_end ?_
      refine g_v1 (t := 9) (u := (.ref (.bx 9) 0 [] (.agg [(Enc.enc (e_37.a : List Int)), (.int .i64 e_37.b), (Enc.enc (e_37.c : List Int))]))) (.ref (.bx 9) 0 [1] (.int .i64 e_37.b)) h9 rfl rfl ?_
      refine g_v1 (t := 73) (u := (.ref (.bx 9) 0 [1] (.int .i64 e_37.b))) (.int .i64 e_37.b) rfl rfl rfl ?_
      refine g_v1 (t := 7) (u := (.ref (.bx 7) 0 [] (.agg [(Enc.enc (e_4.a : List Int)), (.int .i64 e_4.b), (Enc.enc (e_4.c : List Int))]))) (.ref (.bx 7) 0 [1] (.int .i64 e_4.b)) h7 rfl rfl ?_
      refine g_v1 (t := 75) (u := (.ref (.bx 7) 0 [1] (.int .i64 e_4.b))) (.int .i64 e_4.b) rfl rfl rfl ?_
      refine g_v1 (t := 76) (u := (.int .i64 e_4.b)) (.int .i64 (w64 (e_4.b - 1))) rfl rfl rfl ?_
      refine g_v2 (t1 := 74) (t2 := 77) (u1 := (.int .i64 e_37.b)) (u2 := (.int .i64 (w64 (e_4.b - 1)))) (.bool (e_37.b != (w64 (e_4.b - 1)))) rfl rfl rfl rfl ?_
      refine g_v1 (t := 78) (u := (.bool (e_37.b != (w64 (e_4.b - 1))))) (.bool (e_37.b != (w64 (e_4.b - 1)))) rfl rfl rfl ?_
      refine split_on (c := (e_37.b != (w64 (e_4.b - 1)))) h (fun hg7 h => ?_) (fun hg7 h => ?_)
      · refine g_no (Eq.trans (b := .bool (e_37.b != (w64 (e_4.b - 1)))) rfl (congrArg V.bool hg7)) ?_
        refine g_no (Eq.trans (b := .bool (e_37.b != (w64 (e_4.b - 1)))) rfl (congrArg V.bool hg7)) ?_
        refine g_no (Eq.trans (b := .bool (e_37.b != (w64 (e_4.b - 1)))) rfl (congrArg V.bool hg7)) ?_
        refine g_no (Eq.trans (b := .bool (e_37.b != (w64 (e_4.b - 1)))) rfl (congrArg V.bool hg7)) ?_
        refine g_no (Eq.trans (b := .bool (e_37.b != (w64 (e_4.b - 1)))) rfl (congrArg V.bool hg7)) ?_
        refine g_no (Eq.trans (b := .bool (e_37.b != (w64 (e_4.b - 1)))) rfl (congrArg V.bool hg7)) ?_
        refine g_v2 (t1 := 79) (t2 := 85) (u1 := (.bool true)) (u2 := (.tup [])) (.bool true) (Eq.trans (b := .bool (e_37.b != (w64 (e_4.b - 1)))) rfl (congrArg V.bool hg7)) rfl rfl rfl ?_
        refine g_v1 (t := 86) (u := (.bool true)) (.bool true) rfl rfl rfl ?_
        refine g_no rfl ?_
        refine g_no rfl ?_
        refine g_no rfl ?_
        refine g_no rfl ?_
        refine g_no rfl ?_
        refine g_no rfl ?_
        refine g_no rfl ?_
        refine g_no rfl ?_
        refine g_v2 (t1 := 87) (t2 := 95) (u1 := (.bool true)) (u2 := (.tup [])) (.bool true) rfl rfl rfl rfl ?_
        refine g_end ?_
        refine e_end ?_
        refine renew [(1, (Enc.enc (proof_2 : List (S3 (List Int) Int (List Int))))), (2, (.int .i64 at_3)), (6, (.bool false)), (7, (.ref (.bx 7) 0 [] (.agg [(Enc.enc (e_4.a : List Int)), (.int .i64 e_4.b), (Enc.enc (e_4.c : List Int))]))), (8, (.int .i64 i_20)), (96, (.bool true))] ⟨h1, h2, h6, h7, h8, rfl⟩ ?_
        rintro s ⟨h1, h2, h6, h7, h8, h96⟩
        exact t_f102_j1 H proof_2 at_3 e_4 i_20 c1 Hc1 true _ ⟨h1, h2, h6, h7, h8, h96⟩ h
      · refine g_yes (Eq.trans (b := .bool (e_37.b != (w64 (e_4.b - 1)))) rfl (congrArg V.bool hg7)) (g_v1 (t := 9) (u := (.ref (.bx 9) 0 [] (.agg [(Enc.enc (e_37.a : List Int)), (.int .i64 e_37.b), (Enc.enc (e_37.c : List Int))]))) (.ref (.bx 9) 0 [0] (Enc.enc (e_37.a : List Int))) h9 rfl rfl ?_)
        refine g_yes (Eq.trans (b := .bool (e_37.b != (w64 (e_4.b - 1)))) rfl (congrArg V.bool hg7)) (g_v1 (t := 80) (u := (.ref (.bx 9) 0 [0] (Enc.enc (e_37.a : List Int)))) (Enc.enc (e_37.a : List Int)) rfl rfl rfl ?_)
        refine g_yes (Eq.trans (b := .bool (e_37.b != (w64 (e_4.b - 1)))) rfl (congrArg V.bool hg7)) (g_v1 (t := 7) (u := (.ref (.bx 7) 0 [] (.agg [(Enc.enc (e_4.a : List Int)), (.int .i64 e_4.b), (Enc.enc (e_4.c : List Int))]))) (.ref (.bx 7) 0 [0] (Enc.enc (e_4.a : List Int))) h7 rfl rfl ?_)
        refine g_yes (Eq.trans (b := .bool (e_37.b != (w64 (e_4.b - 1)))) rfl (congrArg V.bool hg7)) (g_v1 (t := 82) (u := (.ref (.bx 7) 0 [0] (Enc.enc (e_4.a : List Int)))) (Enc.enc (e_4.a : List Int)) rfl rfl rfl ?_)
        obtain ⟨r_42, E_r_42, h⟩ := bind_some h
        refine g_yes (Eq.trans (b := .bool (e_37.b != (w64 (e_4.b - 1)))) rfl (congrArg V.bool hg7)) (g_call (m := 0) (al := false) (r := (Enc.enc (r_42 : Bool))) [Enc.enc (e_37.a : (List Int)), Enc.enc (e_4.a : (List Int))] (ta_cons (v := (Enc.enc (e_37.a : List Int))) rfl rfl (Enc.erase_enc (e_37.a : (List Int))) (ta_cons (v := (Enc.enc (e_4.a : List Int))) rfl rfl (Enc.erase_enc (e_4.a : (List Int))) ta_nil)) (H.c126 _ _ _ E_r_42) H.g126 rfl rfl rfl rfl ?_)
        refine g_yes (Eq.trans (b := .bool (e_37.b != (w64 (e_4.b - 1)))) rfl (congrArg V.bool hg7)) (g_v1 (t := 84) (u := (.bool r_42)) (.bool (!r_42)) rfl rfl rfl ?_)
        refine g_v2 (t1 := 79) (t2 := 85) (u1 := (.bool false)) (u2 := (.bool (!r_42))) (.bool (!r_42)) (Eq.trans (b := .bool (e_37.b != (w64 (e_4.b - 1)))) rfl (congrArg V.bool hg7)) rfl rfl rfl ?_
        refine g_v1 (t := 86) (u := (.bool (!r_42))) (.bool (!r_42)) rfl rfl rfl ?_
        refine split_on (c := (!r_42)) h (fun hg15 h => ?_) (fun hg15 h => ?_)
        · refine g_no (Eq.trans (b := .bool (!r_42)) rfl (congrArg V.bool hg15)) ?_
          refine g_no (Eq.trans (b := .bool (!r_42)) rfl (congrArg V.bool hg15)) ?_
          refine g_no (Eq.trans (b := .bool (!r_42)) rfl (congrArg V.bool hg15)) ?_
          refine g_no (Eq.trans (b := .bool (!r_42)) rfl (congrArg V.bool hg15)) ?_
          refine g_no (Eq.trans (b := .bool (!r_42)) rfl (congrArg V.bool hg15)) ?_
          refine g_no (Eq.trans (b := .bool (!r_42)) rfl (congrArg V.bool hg15)) ?_
          refine g_no (Eq.trans (b := .bool (!r_42)) rfl (congrArg V.bool hg15)) ?_
          refine g_no (Eq.trans (b := .bool (!r_42)) rfl (congrArg V.bool hg15)) ?_
          refine g_v2 (t1 := 87) (t2 := 95) (u1 := (.bool true)) (u2 := (.tup [])) (.bool true) (Eq.trans (b := .bool (!r_42)) rfl (congrArg V.bool hg15)) rfl rfl rfl ?_
          refine g_end ?_
          refine e_end ?_
          refine renew [(1, (Enc.enc (proof_2 : List (S3 (List Int) Int (List Int))))), (2, (.int .i64 at_3)), (6, (.bool false)), (7, (.ref (.bx 7) 0 [] (.agg [(Enc.enc (e_4.a : List Int)), (.int .i64 e_4.b), (Enc.enc (e_4.c : List Int))]))), (8, (.int .i64 i_20)), (96, (.bool true))] ⟨h1, h2, h6, h7, h8, rfl⟩ ?_
          rintro s ⟨h1, h2, h6, h7, h8, h96⟩
          exact t_f102_j1 H proof_2 at_3 e_4 i_20 c1 Hc1 true _ ⟨h1, h2, h6, h7, h8, h96⟩ h
        · refine g_yes (Eq.trans (b := .bool (!r_42)) rfl (congrArg V.bool hg15)) (g_v1 (t := 9) (u := (.ref (.bx 9) 0 [] (.agg [(Enc.enc (e_37.a : List Int)), (.int .i64 e_37.b), (Enc.enc (e_37.c : List Int))]))) (.ref (.bx 9) 0 [0] (Enc.enc (e_37.a : List Int))) h9 rfl rfl ?_)
          refine g_yes (Eq.trans (b := .bool (!r_42)) rfl (congrArg V.bool hg15)) (g_v1 (t := 88) (u := (.ref (.bx 9) 0 [0] (Enc.enc (e_37.a : List Int)))) (Enc.enc (e_37.a : List Int)) rfl rfl rfl ?_)
          refine g_yes (Eq.trans (b := .bool (!r_42)) rfl (congrArg V.bool hg15)) (g_v1 (t := 7) (u := (.ref (.bx 7) 0 [] (.agg [(Enc.enc (e_4.a : List Int)), (.int .i64 e_4.b), (Enc.enc (e_4.c : List Int))]))) (.ref (.bx 7) 0 [0] (Enc.enc (e_4.a : List Int))) h7 rfl rfl ?_)
          refine g_yes (Eq.trans (b := .bool (!r_42)) rfl (congrArg V.bool hg15)) (g_v1 (t := 90) (u := (.ref (.bx 7) 0 [0] (Enc.enc (e_4.a : List Int)))) (Enc.enc (e_4.a : List Int)) rfl rfl rfl ?_)
          refine g_yes (Eq.trans (b := .bool (!r_42)) rfl (congrArg V.bool hg15)) (g_v1 (t := 8) (u := (.int .i64 i_20)) (.int .i64 i_20) h8 rfl rfl ?_)
          obtain ⟨e_43, E_e_43, h⟩ := bind_some h
          refine g_yes (Eq.trans (b := .bool (!r_42)) rfl (congrArg V.bool hg15)) (g_v (.ref .sh 0 [] (.int .i64 e_43)) (ev_idx (t := .sh) (lo := 0) (xs := e_4.a) rfl rfl E_e_43 rfl rfl) ?_)
          refine g_yes (Eq.trans (b := .bool (!r_42)) rfl (congrArg V.bool hg15)) (g_v1 (t := 93) (u := (.ref .sh 0 [] (.int .i64 e_43))) (.int .i64 e_43) rfl rfl rfl ?_)
          obtain ⟨r_44, E_r_44, h⟩ := bind_some h
          refine g_yes (Eq.trans (b := .bool (!r_42)) rfl (congrArg V.bool hg15)) (g_call (m := 0) (al := false) (r := (Enc.enc (r_44 : Bool))) [Enc.enc (e_37.a : (List Int)), Enc.enc (e_43 : Int)] (ta_cons (v := (Enc.enc (e_37.a : List Int))) rfl rfl (Enc.erase_enc (e_37.a : (List Int))) (ta_cons (v := (.int .i64 e_43)) rfl rfl rfl ta_nil)) (H.c45 _ _ _ E_r_44) H.g45 rfl rfl rfl rfl ?_)
          refine g_v2 (t1 := 87) (t2 := 95) (u1 := (.bool false)) (u2 := (.bool r_44)) (.bool r_44) (Eq.trans (b := .bool (!r_42)) rfl (congrArg V.bool hg15)) rfl rfl rfl ?_
          refine g_end ?_
          refine e_end ?_
          refine renew [(1, (Enc.enc (proof_2 : List (S3 (List Int) Int (List Int))))), (2, (.int .i64 at_3)), (6, (.bool false)), (7, (.ref (.bx 7) 0 [] (.agg [(Enc.enc (e_4.a : List Int)), (.int .i64 e_4.b), (Enc.enc (e_4.c : List Int))]))), (8, (.int .i64 i_20)), (96, (.bool r_44))] ⟨h1, h2, h6, h7, h8, rfl⟩ ?_
          rintro s ⟨h1, h2, h6, h7, h8, h96⟩
          exact t_f102_j1 H proof_2 at_3 e_4 i_20 c1 Hc1 r_44 _ ⟨h1, h2, h6, h7, h8, h96⟩ h
  · refine .exit ?_
    refine .esq ?_
    refine .elp ?_
    refine .ebk ?_
    refine .nsq ?_
    refine .seq ?_
    refine run_reg ?_
    refine e_end ?_
    refine g_v1 (t := 7) (u := (.ref (.bx 7) 0 [] (.agg [(Enc.enc (e_4.a : List Int)), (.int .i64 e_4.b), (Enc.enc (e_4.c : List Int))]))) (.ref (.bx 7) 0 [2] (Enc.enc (e_4.c : List Int))) h7 rfl rfl ?_
    refine g_v1 (t := 97) (u := (.ref (.bx 7) 0 [2] (Enc.enc (e_4.c : List Int)))) (Enc.enc (e_4.c : List Int)) rfl rfl rfl ?_
    refine g_v (.int .i64 (e_4.c.length : Int)) (ev_len (xs := e_4.c) rfl) ?_
    refine g_v1 (t := 7) (u := (.ref (.bx 7) 0 [] (.agg [(Enc.enc (e_4.a : List Int)), (.int .i64 e_4.b), (Enc.enc (e_4.c : List Int))]))) (.ref (.bx 7) 0 [0] (Enc.enc (e_4.a : List Int))) h7 rfl rfl ?_
    refine g_v1 (t := 100) (u := (.ref (.bx 7) 0 [0] (Enc.enc (e_4.a : List Int)))) (Enc.enc (e_4.a : List Int)) rfl rfl rfl ?_
    refine g_v (.int .i64 (e_4.a.length : Int)) (ev_len (xs := e_4.a) rfl) ?_
    refine g_v2 (t1 := 99) (t2 := 102) (u1 := (.int .i64 (e_4.c.length : Int))) (u2 := (.int .i64 (e_4.a.length : Int))) (.bool ((e_4.c.length : Int) == (e_4.a.length : Int))) rfl rfl rfl rfl ?_
    refine g_v1 (t := 103) (u := (.bool ((e_4.c.length : Int) == (e_4.a.length : Int)))) (.bool ((e_4.c.length : Int) == (e_4.a.length : Int))) rfl rfl rfl ?_
    refine g_end ?_
    refine e_end ?_
    refine renew [(6, (.bool ((e_4.c.length : Int) == (e_4.a.length : Int))))] rfl ?_
    rintro s h6
    refine .nsq ?_
    refine .ret ?_
    have hr := Option.some.inj h
    subst hr
    exact rrA (res_tmp h6) rfl
def s_l7Entry_l1 (F : Nat) (proof_2 : (List (S3 (List Int) Int (List Int)))) (at_3 : Int) (e_4 : (S3 (List Int) Int (List Int)))  : Nat → Int → Option Bool
  | 0, _ => none
  | k + 1, i_20 =>
    bif decide (i_20 < (e_4.c.length : Int)) then
      s_l7Entry_j2 F proof_2 at_3 e_4 i_20 (s_l7Entry_l1 F proof_2 at_3 e_4 k) (decide (i_20 < (e_4.a.length : Int)))
    else
      s_l7Entry_j2 F proof_2 at_3 e_4 i_20 (s_l7Entry_l1 F proof_2 at_3 e_4 k) false
theorem t_f102_l1 (H : H102 D σ F) (proof_2 : (List (S3 (List Int) Int (List Int)))) (at_3 : Int) (e_4 : (S3 (List Int) Int (List Int)))  : ∀ (k : Nat) (i_20 : Int) (s : Nat → V), Facts [(1, (Enc.enc (proof_2 : List (S3 (List Int) Int (List Int))))), (2, (.int .i64 at_3)), (6, (.bool false)), (7, (.ref (.bx 7) 0 [] (.agg [(Enc.enc (e_4.a : List Int)), (.int .i64 e_4.b), (Enc.enc (e_4.c : List Int))]))), (8, (.int .i64 i_20))] s → s_l7Entry_l1 F proof_2 at_3 e_4 k i_20 = some r → Run D σ (R102 r) (.run A102_1 [.lp A102_1, .bk 0, .sq A102_9]) s := by
  intro k
  induction k with
  | zero => intro i_20 s _ h; exact nomatch (h : (none : Option _) = some r)
  | succ k ih =>
    intro i_20 s hs h
    rw [s_l7Entry_l1] at h
    obtain ⟨h1, h2, h6, h7, h8⟩ := hs
    refine .seq ?_
    refine .seq ?_
    refine run_reg ?_
    refine e_end ?_
    refine g_v1 (t := 8) (u := (.int .i64 i_20)) (.int .i64 i_20) h8 rfl rfl ?_
    refine g_v1 (t := 7) (u := (.ref (.bx 7) 0 [] (.agg [(Enc.enc (e_4.a : List Int)), (.int .i64 e_4.b), (Enc.enc (e_4.c : List Int))]))) (.ref (.bx 7) 0 [2] (Enc.enc (e_4.c : List Int))) h7 rfl rfl ?_
    refine g_v1 (t := 40) (u := (.ref (.bx 7) 0 [2] (Enc.enc (e_4.c : List Int)))) (Enc.enc (e_4.c : List Int)) rfl rfl rfl ?_
    refine g_v (.int .i64 (e_4.c.length : Int)) (ev_len (xs := e_4.c) rfl) ?_
    refine g_v2 (t1 := 39) (t2 := 42) (u1 := (.int .i64 i_20)) (u2 := (.int .i64 (e_4.c.length : Int))) (.bool (decide (i_20 < (e_4.c.length : Int)))) rfl rfl rfl rfl ?_
    refine g_v1 (t := 43) (u := (.bool (decide (i_20 < (e_4.c.length : Int))))) (.bool (decide (i_20 < (e_4.c.length : Int)))) rfl rfl rfl ?_
    refine split_on (c := decide (i_20 < (e_4.c.length : Int))) h (fun hg6 h => ?_) (fun hg6 h => ?_)
    · refine g_yes (Eq.trans (b := .bool (decide (i_20 < (e_4.c.length : Int)))) rfl (congrArg V.bool hg6)) (g_v1 (t := 8) (u := (.int .i64 i_20)) (.int .i64 i_20) h8 rfl rfl ?_)
      refine g_yes (Eq.trans (b := .bool (decide (i_20 < (e_4.c.length : Int)))) rfl (congrArg V.bool hg6)) (g_v1 (t := 7) (u := (.ref (.bx 7) 0 [] (.agg [(Enc.enc (e_4.a : List Int)), (.int .i64 e_4.b), (Enc.enc (e_4.c : List Int))]))) (.ref (.bx 7) 0 [0] (Enc.enc (e_4.a : List Int))) h7 rfl rfl ?_)
      refine g_yes (Eq.trans (b := .bool (decide (i_20 < (e_4.c.length : Int)))) rfl (congrArg V.bool hg6)) (g_v1 (t := 46) (u := (.ref (.bx 7) 0 [0] (Enc.enc (e_4.a : List Int)))) (Enc.enc (e_4.a : List Int)) rfl rfl rfl ?_)
      refine g_yes (Eq.trans (b := .bool (decide (i_20 < (e_4.c.length : Int)))) rfl (congrArg V.bool hg6)) (g_v (.int .i64 (e_4.a.length : Int)) (ev_len (xs := e_4.a) rfl) ?_)
      refine g_yes (Eq.trans (b := .bool (decide (i_20 < (e_4.c.length : Int)))) rfl (congrArg V.bool hg6)) (g_v2 (t1 := 45) (t2 := 48) (u1 := (.int .i64 i_20)) (u2 := (.int .i64 (e_4.a.length : Int))) (.bool (decide (i_20 < (e_4.a.length : Int)))) rfl rfl rfl rfl ?_)
      refine g_v2 (t1 := 44) (t2 := 49) (u1 := (.bool true)) (u2 := (.bool (decide (i_20 < (e_4.a.length : Int))))) (.bool (decide (i_20 < (e_4.a.length : Int)))) (Eq.trans (b := .bool (decide (i_20 < (e_4.c.length : Int)))) rfl (congrArg V.bool hg6)) rfl rfl rfl ?_
      refine g_end ?_
      refine e_end ?_
      refine renew [(1, (Enc.enc (proof_2 : List (S3 (List Int) Int (List Int))))), (2, (.int .i64 at_3)), (6, (.bool false)), (7, (.ref (.bx 7) 0 [] (.agg [(Enc.enc (e_4.a : List Int)), (.int .i64 e_4.b), (Enc.enc (e_4.c : List Int))]))), (8, (.int .i64 i_20)), (50, (.bool (decide (i_20 < (e_4.a.length : Int)))))] ⟨h1, h2, h6, h7, h8, rfl⟩ ?_
      rintro s ⟨h1, h2, h6, h7, h8, h50⟩
      exact t_f102_j2 H proof_2 at_3 e_4 i_20 (s_l7Entry_l1 F proof_2 at_3 e_4 k) ih (decide (i_20 < (e_4.a.length : Int))) _ ⟨h1, h2, h6, h7, h8, h50⟩ h
    · refine g_no (Eq.trans (b := .bool (decide (i_20 < (e_4.c.length : Int)))) rfl (congrArg V.bool hg6)) ?_
      refine g_no (Eq.trans (b := .bool (decide (i_20 < (e_4.c.length : Int)))) rfl (congrArg V.bool hg6)) ?_
      refine g_no (Eq.trans (b := .bool (decide (i_20 < (e_4.c.length : Int)))) rfl (congrArg V.bool hg6)) ?_
      refine g_no (Eq.trans (b := .bool (decide (i_20 < (e_4.c.length : Int)))) rfl (congrArg V.bool hg6)) ?_
      refine g_no (Eq.trans (b := .bool (decide (i_20 < (e_4.c.length : Int)))) rfl (congrArg V.bool hg6)) ?_
      refine g_v2 (t1 := 44) (t2 := 49) (u1 := (.bool false)) (u2 := (.tup [])) (.bool false) (Eq.trans (b := .bool (decide (i_20 < (e_4.c.length : Int)))) rfl (congrArg V.bool hg6)) rfl rfl rfl ?_
      refine g_end ?_
      refine e_end ?_
      refine renew [(1, (Enc.enc (proof_2 : List (S3 (List Int) Int (List Int))))), (2, (.int .i64 at_3)), (6, (.bool false)), (7, (.ref (.bx 7) 0 [] (.agg [(Enc.enc (e_4.a : List Int)), (.int .i64 e_4.b), (Enc.enc (e_4.c : List Int))]))), (8, (.int .i64 i_20)), (50, (.bool false))] ⟨h1, h2, h6, h7, h8, rfl⟩ ?_
      rintro s ⟨h1, h2, h6, h7, h8, h50⟩
      exact t_f102_j2 H proof_2 at_3 e_4 i_20 (s_l7Entry_l1 F proof_2 at_3 e_4 k) ih false _ ⟨h1, h2, h6, h7, h8, h50⟩ h
def s_l7Entry_j3 (F : Nat) (proof_2 : (List (S3 (List Int) Int (List Int)))) (at_3 : Int) (e_4 : (S3 (List Int) Int (List Int)))  (t31_7 : Bool) : Option Bool :=
  bif t31_7 then
    some false
  else
    bif (e_4.b == 1) then
      some ((e_4.c.length : Int) == 0)
    else
      s_l7Entry_l1 F proof_2 at_3 e_4 F 0
theorem t_f102_j3 (H : H102 D σ F) (proof_2 : (List (S3 (List Int) Int (List Int)))) (at_3 : Int) (e_4 : (S3 (List Int) Int (List Int)))  (t31_7 : Bool) (s : Nat → V) (hs : Facts [(1, (Enc.enc (proof_2 : List (S3 (List Int) Int (List Int))))), (2, (.int .i64 at_3)), (6, (.bool false)), (7, (.ref (.bx 7) 0 [] (.agg [(Enc.enc (e_4.a : List Int)), (.int .i64 e_4.b), (Enc.enc (e_4.c : List Int))]))), (31, (.bool t31_7))] s) (h : s_l7Entry_j3 F proof_2 at_3 e_4  t31_7 = some r) : Run D σ (R102 r) (.nrm [.sq A102_10, .sq A102_11]) s := by
  unfold s_l7Entry_j3 at h
  obtain ⟨h1, h2, h6, h7, h31⟩ := hs
  refine .nsq ?_
  refine run_cond (t := t31_7) h31 h (fun h => ?_) (fun h => ?_)
  · refine .seq ?_
    refine run_reg ?_
    refine e_end ?_
    refine g_v0 (.bool false) rfl rfl ?_
    refine g_end ?_
    refine e_end ?_
    refine renew [(1, (Enc.enc (proof_2 : List (S3 (List Int) Int (List Int))))), (2, (.int .i64 at_3)), (6, (.bool false)), (7, (.ref (.bx 7) 0 [] (.agg [(Enc.enc (e_4.a : List Int)), (.int .i64 e_4.b), (Enc.enc (e_4.c : List Int))])))] ⟨h1, h2, rfl, h7⟩ ?_
    rintro s ⟨h1, h2, h6, h7⟩
    refine .nsq ?_
    refine .ret ?_
    have hr := Option.some.inj h
    subst hr
    exact rrA (res_tmp h6) rfl
  · refine .skip ?_
    refine .nsq ?_
    refine .seq ?_
    refine .seq ?_
    refine run_reg ?_
    refine e_end ?_
    refine g_v1 (t := 7) (u := (.ref (.bx 7) 0 [] (.agg [(Enc.enc (e_4.a : List Int)), (.int .i64 e_4.b), (Enc.enc (e_4.c : List Int))]))) (.ref (.bx 7) 0 [1] (.int .i64 e_4.b)) h7 rfl rfl ?_
    refine g_v1 (t := 32) (u := (.ref (.bx 7) 0 [1] (.int .i64 e_4.b))) (.int .i64 e_4.b) rfl rfl rfl ?_
    refine g_v1 (t := 33) (u := (.int .i64 e_4.b)) (.bool (e_4.b == 1)) rfl rfl rfl ?_
    refine g_end ?_
    refine e_end ?_
    refine renew [(1, (Enc.enc (proof_2 : List (S3 (List Int) Int (List Int))))), (2, (.int .i64 at_3)), (6, (.bool false)), (7, (.ref (.bx 7) 0 [] (.agg [(Enc.enc (e_4.a : List Int)), (.int .i64 e_4.b), (Enc.enc (e_4.c : List Int))]))), (34, (.bool (e_4.b == 1)))] ⟨h1, h2, h6, h7, rfl⟩ ?_
    rintro s ⟨h1, h2, h6, h7, h34⟩
    refine .nsq ?_
    refine run_cond (t := (e_4.b == 1)) h34 h (fun h => ?_) (fun h => ?_)
    · refine .seq ?_
      refine run_reg ?_
      refine e_end ?_
      refine g_v1 (t := 7) (u := (.ref (.bx 7) 0 [] (.agg [(Enc.enc (e_4.a : List Int)), (.int .i64 e_4.b), (Enc.enc (e_4.c : List Int))]))) (.ref (.bx 7) 0 [2] (Enc.enc (e_4.c : List Int))) h7 rfl rfl ?_
      refine g_v1 (t := 35) (u := (.ref (.bx 7) 0 [2] (Enc.enc (e_4.c : List Int)))) (Enc.enc (e_4.c : List Int)) rfl rfl rfl ?_
      refine g_v (.int .i64 (e_4.c.length : Int)) (ev_len (xs := e_4.c) rfl) ?_
      refine g_v1 (t := 37) (u := (.int .i64 (e_4.c.length : Int))) (.bool ((e_4.c.length : Int) == 0)) rfl rfl rfl ?_
      refine g_v1 (t := 38) (u := (.bool ((e_4.c.length : Int) == 0))) (.bool ((e_4.c.length : Int) == 0)) rfl rfl rfl ?_
      refine g_end ?_
      refine e_end ?_
      refine renew [(1, (Enc.enc (proof_2 : List (S3 (List Int) Int (List Int))))), (2, (.int .i64 at_3)), (6, (.bool ((e_4.c.length : Int) == 0))), (7, (.ref (.bx 7) 0 [] (.agg [(Enc.enc (e_4.a : List Int)), (.int .i64 e_4.b), (Enc.enc (e_4.c : List Int))])))] ⟨h1, h2, rfl, h7⟩ ?_
      rintro s ⟨h1, h2, h6, h7⟩
      refine .nsq ?_
      refine .ret ?_
      have hr := Option.some.inj h
      subst hr
      exact rrA (res_tmp h6) rfl
    · refine .skip ?_
      refine .nsq ?_
      refine .seq ?_
      refine .seq ?_
      refine run_reg ?_
      refine e_end ?_
      refine g_v0 (.int .i64 0) rfl rfl ?_
      refine g_end ?_
      refine e_end ?_
      refine renew [(1, (Enc.enc (proof_2 : List (S3 (List Int) Int (List Int))))), (2, (.int .i64 at_3)), (6, (.bool false)), (7, (.ref (.bx 7) 0 [] (.agg [(Enc.enc (e_4.a : List Int)), (.int .i64 e_4.b), (Enc.enc (e_4.c : List Int))]))), (8, (.int .i64 0))] ⟨h1, h2, h6, h7, rfl⟩ ?_
      rintro s ⟨h1, h2, h6, h7, h8⟩
      refine .nsq ?_
      refine .block ?_
      refine .loop ?_
      exact t_f102_l1 H proof_2 at_3 e_4 F 0 _ ⟨h1, h2, h6, h7, h8⟩ h
def s_l7Entry (F : Nat) (g_1 : (Int × (List (Int × Int)))) (proof_2 : (List (S3 (List Int) Int (List Int)))) (at_3 : Int) : Option Bool :=
  (idx proof_2 at_3).bind fun e_4 =>
  (s_l2Set F g_1 e_4.a).bind fun r_45 =>
  bif (!r_45) then
    s_l7Entry_j3 F proof_2 at_3 e_4 true
  else
    (s_l2Parts F g_1 e_4.a).bind fun r_46 =>
    bif ((r_46.length : Int) != 1) then
      s_l7Entry_j3 F proof_2 at_3 e_4 true
    else
      s_l7Entry_j3 F proof_2 at_3 e_4 (decide (e_4.b < 1))
theorem t102 (H : H102 D σ F) (g_1 : (Int × (List (Int × Int)))) (proof_2 : (List (S3 (List Int) Int (List Int)))) (at_3 : Int) (s : Nat → V) (hs : Facts [(0, (.agg [(.int .i64 g_1.1), (Enc.enc (g_1.2 : List (Int × Int)))])), (1, (Enc.enc (proof_2 : List (S3 (List Int) Int (List Int))))), (2, (.int .i64 at_3))] s) (h : s_l7Entry F g_1 proof_2 at_3 = some r) : Run D σ (R102 r) (.run A102 []) s := by
  unfold s_l7Entry at h
  obtain ⟨h0, h1, h2⟩ := hs
  refine .seq ?_
  refine run_reg ?_
  refine e_clr ?_
  refine e_end ?_
  refine g_box (.agg [(.int .i64 g_1.1), (Enc.enc (g_1.2 : List (Int × Int)))]) (rd_of (keep_clear (s := s) (pk := [3]) h0 rfl (map_agg (maps_cons rfl (maps_cons (Enc.map_enc _ (g_1.2 : List (Int × Int))) maps_nil)))) rfl) (gone_clear (s := s) (pk := [3]) (t := 3) rfl) rfl ?_
  refine g_v0 (.bool false) rfl rfl ?_
  refine g_end ?_
  refine e_end ?_
  refine renew [(1, (Enc.enc (proof_2 : List (S3 (List Int) Int (List Int))))), (2, (.int .i64 at_3)), (3, (.ref (.bx 3) 0 [] (.agg [(.int .i64 g_1.1), (Enc.enc (g_1.2 : List (Int × Int)))]))), (6, (.bool false))] ⟨(keep_clear (s := s) (pk := [3]) h1 rfl (Enc.map_enc _ (proof_2 : List (S3 (List Int) Int (List Int))))), (keep_clear (s := s) (pk := [3]) h2 rfl rfl), rfl, rfl⟩ ?_
  rintro s ⟨h1, h2, h3, h6⟩
  refine .nsq ?_
  refine .seq ?_
  refine run_reg ?_
  refine e_clr ?_
  refine e_end ?_
  refine g_v1 (t := 1) (u := (Enc.enc (proof_2 : List (S3 (List Int) Int (List Int))))) (Enc.enc (proof_2 : List (S3 (List Int) Int (List Int)))) (keep_clear (s := s) (pk := [7]) h1 rfl (Enc.map_enc _ (proof_2 : List (S3 (List Int) Int (List Int))))) rfl rfl ?_
  refine g_v1 (t := 2) (u := (.int .i64 at_3)) (.int .i64 at_3) (keep_clear (s := s) (pk := [7]) h2 rfl rfl) rfl rfl ?_
  obtain ⟨e_4, E_e_4, h⟩ := bind_some h
  refine g_v (.ref .sh 0 [] (.agg [(Enc.enc (e_4.a : List Int)), (.int .i64 e_4.b), (Enc.enc (e_4.c : List Int))])) (ev_idx (t := .sh) (lo := 0) (xs := proof_2) rfl rfl E_e_4 rfl rfl) ?_
  refine g_v1 (t := 12) (u := (.ref .sh 0 [] (.agg [(Enc.enc (e_4.a : List Int)), (.int .i64 e_4.b), (Enc.enc (e_4.c : List Int))]))) (.agg [(Enc.enc (e_4.a : List Int)), (.int .i64 e_4.b), (Enc.enc (e_4.c : List Int))]) rfl rfl rfl ?_
  refine g_alloc (gone_clear (s := s) (pk := [7]) (t := 7) rfl) ?_
  refine g_store (.agg [(Enc.enc (e_4.a : List Int)), (.int .i64 e_4.b), (Enc.enc (e_4.c : List Int))]) (rd_of rfl rfl) (rd_of rfl rfl) (by refine ⟨by decide, by decide, rfl, rfl, rfl, ?_⟩; first | rfl | simp [V.toks, V.tokss, Enc.toks_enc]) ?_
  refine g_end ?_
  refine e_end ?_
  refine renew [(1, (Enc.enc (proof_2 : List (S3 (List Int) Int (List Int))))), (2, (.int .i64 at_3)), (3, (.ref (.bx 3) 0 [] (.agg [(.int .i64 g_1.1), (Enc.enc (g_1.2 : List (Int × Int)))]))), (6, (.bool false)), (7, (.ref (.bx 7) 0 [] (.agg [(Enc.enc (e_4.a : List Int)), (.int .i64 e_4.b), (Enc.enc (e_4.c : List Int))])))] ⟨(keep_mut (keep_clear (s := s) (pk := [7]) h1 rfl (Enc.map_enc _ (proof_2 : List (S3 (List Int) Int (List Int))))) (Enc.mut_enc _ _ _ _ (proof_2 : List (S3 (List Int) Int (List Int))))), (keep_mut (keep_clear (s := s) (pk := [7]) h2 rfl rfl) rfl), (keep_mut (keep_clear (s := s) (pk := [7]) h3 rfl (map_bx rfl (map_agg (maps_cons rfl (maps_cons (Enc.map_enc _ (g_1.2 : List (Int × Int))) maps_nil))))) (mut_ref_ne rfl rfl (mut_agg (muts_cons rfl (muts_cons (Enc.mut_enc _ _ _ _ (g_1.2 : List (Int × Int))) rfl))))), (keep_mut (keep_clear (s := s) (pk := [7]) h6 rfl rfl) rfl), (keep_mut rfl rfl)⟩ ?_
  rintro s ⟨h1, h2, h3, h6, h7⟩
  refine .nsq ?_
  refine .seq ?_
  refine .seq ?_
  refine run_reg ?_
  refine e_end ?_
  refine g_v1 (t := 3) (u := (.ref (.bx 3) 0 [] (.agg [(.int .i64 g_1.1), (Enc.enc (g_1.2 : List (Int × Int)))]))) (.agg [(.int .i64 g_1.1), (Enc.enc (g_1.2 : List (Int × Int)))]) h3 rfl rfl ?_
  refine g_v1 (t := 7) (u := (.ref (.bx 7) 0 [] (.agg [(Enc.enc (e_4.a : List Int)), (.int .i64 e_4.b), (Enc.enc (e_4.c : List Int))]))) (.ref (.bx 7) 0 [0] (Enc.enc (e_4.a : List Int))) h7 rfl rfl ?_
  refine g_v1 (t := 15) (u := (.ref (.bx 7) 0 [0] (Enc.enc (e_4.a : List Int)))) (Enc.enc (e_4.a : List Int)) rfl rfl rfl ?_
  obtain ⟨r_45, E_r_45, h⟩ := bind_some h
  refine g_call (m := 0) (al := false) (r := (Enc.enc (r_45 : Bool))) [Enc.enc (g_1 : (Int × (List (Int × Int)))), Enc.enc (e_4.a : (List Int))] (ta_cons (v := (.agg [(.int .i64 g_1.1), (Enc.enc (g_1.2 : List (Int × Int)))])) rfl rfl (Enc.erase_enc (g_1 : (Int × (List (Int × Int))))) (ta_cons (v := (Enc.enc (e_4.a : List Int))) rfl rfl (Enc.erase_enc (e_4.a : (List Int))) ta_nil)) (H.c89 _ _ _ E_r_45) H.g89 rfl rfl rfl rfl ?_
  refine g_v1 (t := 17) (u := (.bool r_45)) (.bool (!r_45)) rfl rfl rfl ?_
  refine g_v1 (t := 18) (u := (.bool (!r_45))) (.bool (!r_45)) rfl rfl rfl ?_
  refine split_on (c := (!r_45)) h (fun hg6 h => ?_) (fun hg6 h => ?_)
  · refine g_no (Eq.trans (b := .bool (!r_45)) rfl (congrArg V.bool hg6)) ?_
    refine g_no (Eq.trans (b := .bool (!r_45)) rfl (congrArg V.bool hg6)) ?_
    refine g_no (Eq.trans (b := .bool (!r_45)) rfl (congrArg V.bool hg6)) ?_
    refine g_no (Eq.trans (b := .bool (!r_45)) rfl (congrArg V.bool hg6)) ?_
    refine g_no (Eq.trans (b := .bool (!r_45)) rfl (congrArg V.bool hg6)) ?_
    refine g_no (Eq.trans (b := .bool (!r_45)) rfl (congrArg V.bool hg6)) ?_
    refine g_v2 (t1 := 19) (t2 := 25) (u1 := (.bool true)) (u2 := (.tup [])) (.bool true) (Eq.trans (b := .bool (!r_45)) rfl (congrArg V.bool hg6)) rfl rfl rfl ?_
    refine g_v1 (t := 26) (u := (.bool true)) (.bool true) rfl rfl rfl ?_
    refine g_no rfl ?_
    refine g_no rfl ?_
    refine g_no rfl ?_
    refine g_v2 (t1 := 27) (t2 := 30) (u1 := (.bool true)) (u2 := (.tup [])) (.bool true) rfl rfl rfl rfl ?_
    refine g_end ?_
    refine e_end ?_
    refine renew [(1, (Enc.enc (proof_2 : List (S3 (List Int) Int (List Int))))), (2, (.int .i64 at_3)), (6, (.bool false)), (7, (.ref (.bx 7) 0 [] (.agg [(Enc.enc (e_4.a : List Int)), (.int .i64 e_4.b), (Enc.enc (e_4.c : List Int))]))), (31, (.bool true))] ⟨h1, h2, h6, h7, rfl⟩ ?_
    rintro s ⟨h1, h2, h6, h7, h31⟩
    exact t_f102_j3 H proof_2 at_3 e_4 true _ ⟨h1, h2, h6, h7, h31⟩ h
  · refine g_yes (Eq.trans (b := .bool (!r_45)) rfl (congrArg V.bool hg6)) (g_v1 (t := 3) (u := (.ref (.bx 3) 0 [] (.agg [(.int .i64 g_1.1), (Enc.enc (g_1.2 : List (Int × Int)))]))) (.agg [(.int .i64 g_1.1), (Enc.enc (g_1.2 : List (Int × Int)))]) h3 rfl rfl ?_)
    refine g_yes (Eq.trans (b := .bool (!r_45)) rfl (congrArg V.bool hg6)) (g_v1 (t := 7) (u := (.ref (.bx 7) 0 [] (.agg [(Enc.enc (e_4.a : List Int)), (.int .i64 e_4.b), (Enc.enc (e_4.c : List Int))]))) (.ref (.bx 7) 0 [0] (Enc.enc (e_4.a : List Int))) h7 rfl rfl ?_)
    refine g_yes (Eq.trans (b := .bool (!r_45)) rfl (congrArg V.bool hg6)) (g_v1 (t := 21) (u := (.ref (.bx 7) 0 [0] (Enc.enc (e_4.a : List Int)))) (Enc.enc (e_4.a : List Int)) rfl rfl rfl ?_)
    obtain ⟨r_46, E_r_46, h⟩ := bind_some h
    refine g_yes (Eq.trans (b := .bool (!r_45)) rfl (congrArg V.bool hg6)) (g_call (m := 0) (al := true) (r := (Enc.enc (r_46 : (List (List Int))))) [Enc.enc (g_1 : (Int × (List (Int × Int)))), Enc.enc (e_4.a : (List Int))] (ta_cons (v := (.agg [(.int .i64 g_1.1), (Enc.enc (g_1.2 : List (Int × Int)))])) rfl rfl (Enc.erase_enc (g_1 : (Int × (List (Int × Int))))) (ta_cons (v := (Enc.enc (e_4.a : List Int))) rfl rfl (Enc.erase_enc (e_4.a : (List Int))) ta_nil)) (H.c90 _ _ _ E_r_46) H.g90 (hal_of (ht_cons (v := (.agg [(.int .i64 g_1.1), (Enc.enc (g_1.2 : List (Int × Int)))])) rfl rfl rfl (ht_cons (v := (Enc.enc (e_4.a : List Int))) rfl rfl rfl ht_nil))) rfl rfl rfl ?_)
    refine g_yes (Eq.trans (b := .bool (!r_45)) rfl (congrArg V.bool hg6)) (g_v (.int .i64 (r_46.length : Int)) (ev_len (xs := r_46) rfl) ?_)
    refine g_yes (Eq.trans (b := .bool (!r_45)) rfl (congrArg V.bool hg6)) (g_v1 (t := 24) (u := (.int .i64 (r_46.length : Int))) (.bool ((r_46.length : Int) != 1)) rfl rfl rfl ?_)
    refine g_v2 (t1 := 19) (t2 := 25) (u1 := (.bool false)) (u2 := (.bool ((r_46.length : Int) != 1))) (.bool ((r_46.length : Int) != 1)) (Eq.trans (b := .bool (!r_45)) rfl (congrArg V.bool hg6)) rfl rfl rfl ?_
    refine g_v1 (t := 26) (u := (.bool ((r_46.length : Int) != 1))) (.bool ((r_46.length : Int) != 1)) rfl rfl rfl ?_
    refine split_on (c := ((r_46.length : Int) != 1)) h (fun hg14 h => ?_) (fun hg14 h => ?_)
    · refine g_no (Eq.trans (b := .bool ((r_46.length : Int) != 1)) rfl (congrArg V.bool hg14)) ?_
      refine g_no (Eq.trans (b := .bool ((r_46.length : Int) != 1)) rfl (congrArg V.bool hg14)) ?_
      refine g_no (Eq.trans (b := .bool ((r_46.length : Int) != 1)) rfl (congrArg V.bool hg14)) ?_
      refine g_v2 (t1 := 27) (t2 := 30) (u1 := (.bool true)) (u2 := (.tup [])) (.bool true) (Eq.trans (b := .bool ((r_46.length : Int) != 1)) rfl (congrArg V.bool hg14)) rfl rfl rfl ?_
      refine g_end ?_
      refine e_end ?_
      refine renew [(1, (Enc.enc (proof_2 : List (S3 (List Int) Int (List Int))))), (2, (.int .i64 at_3)), (6, (.bool false)), (7, (.ref (.bx 7) 0 [] (.agg [(Enc.enc (e_4.a : List Int)), (.int .i64 e_4.b), (Enc.enc (e_4.c : List Int))]))), (31, (.bool true))] ⟨h1, h2, h6, h7, rfl⟩ ?_
      rintro s ⟨h1, h2, h6, h7, h31⟩
      exact t_f102_j3 H proof_2 at_3 e_4 true _ ⟨h1, h2, h6, h7, h31⟩ h
    · refine g_yes (Eq.trans (b := .bool ((r_46.length : Int) != 1)) rfl (congrArg V.bool hg14)) (g_v1 (t := 7) (u := (.ref (.bx 7) 0 [] (.agg [(Enc.enc (e_4.a : List Int)), (.int .i64 e_4.b), (Enc.enc (e_4.c : List Int))]))) (.ref (.bx 7) 0 [1] (.int .i64 e_4.b)) h7 rfl rfl ?_)
      refine g_yes (Eq.trans (b := .bool ((r_46.length : Int) != 1)) rfl (congrArg V.bool hg14)) (g_v1 (t := 28) (u := (.ref (.bx 7) 0 [1] (.int .i64 e_4.b))) (.int .i64 e_4.b) rfl rfl rfl ?_)
      refine g_yes (Eq.trans (b := .bool ((r_46.length : Int) != 1)) rfl (congrArg V.bool hg14)) (g_v1 (t := 29) (u := (.int .i64 e_4.b)) (.bool (decide (e_4.b < 1))) rfl rfl rfl ?_)
      refine g_v2 (t1 := 27) (t2 := 30) (u1 := (.bool false)) (u2 := (.bool (decide (e_4.b < 1)))) (.bool (decide (e_4.b < 1))) (Eq.trans (b := .bool ((r_46.length : Int) != 1)) rfl (congrArg V.bool hg14)) rfl rfl rfl ?_
      refine g_end ?_
      refine e_end ?_
      refine renew [(1, (Enc.enc (proof_2 : List (S3 (List Int) Int (List Int))))), (2, (.int .i64 at_3)), (6, (.bool false)), (7, (.ref (.bx 7) 0 [] (.agg [(Enc.enc (e_4.a : List Int)), (.int .i64 e_4.b), (Enc.enc (e_4.c : List Int))]))), (31, (.bool (decide (e_4.b < 1))))] ⟨h1, h2, h6, h7, rfl⟩ ?_
      rintro s ⟨h1, h2, h6, h7, h31⟩
      exact t_f102_j3 H proof_2 at_3 e_4 (decide (e_4.b < 1)) _ ⟨h1, h2, h6, h7, h31⟩ h
end
def e102 (F : Nat) : Ent := ⟨102, da (fun (x : ((Int × (List (Int × Int))) × (List (S3 (List Int) Int (List Int))) × Int × Unit)) => s_l7Entry F x.1 x.2.1 x.2.2.1) (fun (r : Bool) => (Enc.enc (r : Bool))), 0, false, selF []⟩
theorem p102 {F : Nat} {x0 : (Int × (List (Int × Int)))} {x1 : (List (S3 (List Int) Int (List Int)))} {x2 : Int} {r : Bool} (h : s_l7Entry F x0 x1 x2 = some r) : (e102 F).den [Enc.enc x0, Enc.enc x1, Enc.enc x2] = some (Enc.enc (r : Bool)) := da_put (f := fun (x : ((Int × (List (Int × Int))) × (List (S3 (List Int) Int (List Int))) × Int × Unit)) => s_l7Entry F x.1 x.2.1 x.2.2.1) (t := fun (r : Bool) => (Enc.enc (r : Bool))) (x0, x1, x2, ()) h
theorem o102 {D : Den} {σ : Sig} {F : Nat} (hF : Fits2 Try.prog D σ) (H : H102 D σ F) : (e102 F).Ok Try.prog := by
  refine ⟨fun args r h => ?_, ⟨Try.f102, Try.func102, rfl, rfl⟩⟩
  obtain ⟨⟨x0, x1, x2, _⟩, y, rfl, hy, rfl⟩ := da_open h
  exact contract_run hF (by kernel_rfl) Try.func102 rfl c102 (show 3 ≤ Try.f102.ntmps by decide) (t102 H x0 x1 x2 _ ⟨rfl, rfl, rfl⟩ hy)
/- loop.example/g01109/spec.l7Proof -/
def A60_2 : AC := (AC.cond (O.t 13) AC.skip (AC.exit 0))
def A60_4 : AC := (AC.cond (O.t 20) (AC.seq (AC.reg [] [(I.mk (some 4) none false (X.v (A.mov (O.k (V.bool false)))))] []) AC.ret) AC.skip)
def A60_5 : AC := (AC.reg [] [(I.mk (some 14) none false (X.v (A.mov (O.t 5)))), (I.mk (some 15) none false (X.v (A.bin BinOp.add (O.t 14) (O.k (V.int IntKind.i64 (Int.ofNat 1)))))), (I.mk (some 5) none false (X.v (A.mov (O.t 15))))] [])
def A60_3 : AC := (AC.seq (AC.block 1 (AC.seq (AC.reg [] [(I.mk (some 16) none false (X.v (A.load (Sh.ag [Sh.s, Sh.p]) (O.t 2)))), (I.mk (some 17) none false (X.v (A.mov (O.t 1)))), (I.mk (some 18) none false (X.v (A.mov (O.t 5)))), (I.mk (some 19) none false (X.call (O.k (V.fn 102 [] [])) [(O.t 16), (O.t 17), (O.t 18)])), (I.mk (some 20) none false (X.v (A.un UnOp.not (O.t 19))))] []) A60_4)) A60_5)
def A60_1 : AC := (AC.seq (AC.seq (AC.reg [] [(I.mk (some 10) none false (X.v (A.mov (O.t 5)))), (I.mk (some 11) none false (X.v (A.mov (O.t 1)))), (I.mk (some 12) none false (X.v (A.len (O.t 11)))), (I.mk (some 13) none false (X.v (A.bin BinOp.lss (O.t 10) (O.t 12))))] []) A60_2) A60_3)
def A60_6 : AC := (AC.seq (AC.reg [] [(I.mk (some 4) none false (X.v (A.mov (O.k (V.bool true)))))] []) AC.ret)
def A60_8 : AC := (AC.cond (O.t 9) (AC.seq (AC.reg [] [(I.mk (some 4) none false (X.v (A.mov (O.k (V.bool false)))))] []) AC.ret) AC.skip)
def A60_10 : AC := (AC.block 0 (AC.loop A60_1))
def A60_9 : AC := (AC.seq (AC.seq (AC.reg [] [(I.mk (some 5) none false (X.v (A.mov (O.k (V.int IntKind.i64 (Int.ofNat 0))))))] []) A60_10) A60_6)
def A60_7 : AC := (AC.seq (AC.seq (AC.reg [] [(I.mk (some 6) none false (X.v (A.mov (O.t 1)))), (I.mk (some 7) none false (X.v (A.len (O.t 6)))), (I.mk (some 8) none false (X.call (O.k (V.fn 65 [] [])) [(O.t 7), (O.k (V.int IntKind.i64 (Int.ofNat 1))), (O.k (V.int IntKind.i64 (Int.ofNat 200)))])), (I.mk (some 9) none false (X.v (A.un UnOp.not (O.t 8))))] []) A60_8) A60_9)
def A60 : AC := (AC.seq (AC.reg [.clr [2]] [(I.mk (some 2) none false (X.box (O.t 0))), (I.mk (some 4) none false (X.v (A.mov (O.k (V.bool false)))))] []) A60_7)
def an60 : List An := [{ id := 0, pre := [.clr [2]], ep := [], lin := [], sp := [] }]
theorem c60 : cC Try.prog Try.f60.ntmps an60 (Try.f60.body.getD .skip) = some A60 := by kernel_rfl
structure H60 (D : Den) (σ : Sig) (F : Nat) : Prop where
  c65 : ∀ (x0 : Int) (x1 : Int) (x2 : Int) r, s_l1In F x0 x1 x2 = some r → D 65 [Enc.enc x0, Enc.enc x1, Enc.enc x2] = some (Enc.enc (r : Bool))
  g65 : σ 65 = some (0, false)
  c102 : ∀ (x0 : (Int × (List (Int × Int)))) (x1 : (List (S3 (List Int) Int (List Int)))) (x2 : Int) r, s_l7Entry F x0 x1 x2 = some r → D 102 [Enc.enc x0, Enc.enc x1, Enc.enc x2] = some (Enc.enc (r : Bool))
  g102 : σ 102 = some (0, false)
abbrev R60 (r : Bool) : (Nat → V) → Prop := RR Try.prog [.tmp 4] 0 false (Enc.enc (r : Bool))
section
variable {D : Den} {σ : Sig} {F : Nat} {r : Bool}
def s_l7Proof_l1 (F : Nat) (proof_2 : (List (S3 (List Int) Int (List Int)))) (g_1 : (Int × (List (Int × Int))))  : Nat → Int → Option Bool
  | 0, _ => none
  | k + 1, i_5 =>
    bif decide (i_5 < (proof_2.length : Int)) then
      (s_l7Entry F g_1 proof_2 i_5).bind fun r_7 =>
      bif (!r_7) then
        some false
      else
        (s_l7Proof_l1 F proof_2 g_1 k) (w64 (i_5 + 1))
    else
      some true
theorem t_f60_l1 (H : H60 D σ F) (proof_2 : (List (S3 (List Int) Int (List Int)))) (g_1 : (Int × (List (Int × Int))))  : ∀ (k : Nat) (i_5 : Int) (s : Nat → V), Facts [(1, (Enc.enc (proof_2 : List (S3 (List Int) Int (List Int))))), (2, (.ref (.bx 2) 0 [] (.agg [(.int .i64 g_1.1), (Enc.enc (g_1.2 : List (Int × Int)))]))), (4, (.bool false)), (5, (.int .i64 i_5))] s → s_l7Proof_l1 F proof_2 g_1 k i_5 = some r → Run D σ (R60 r) (.run A60_1 [.lp A60_1, .bk 0, .sq A60_6]) s := by
  intro k
  induction k with
  | zero => intro i_5 s _ h; exact nomatch (h : (none : Option _) = some r)
  | succ k ih =>
    intro i_5 s hs h
    rw [s_l7Proof_l1] at h
    obtain ⟨h1, h2, h4, h5⟩ := hs
    refine .seq ?_
    refine .seq ?_
    refine run_reg ?_
    refine e_end ?_
    refine g_v1 (t := 5) (u := (.int .i64 i_5)) (.int .i64 i_5) h5 rfl rfl ?_
    refine g_v1 (t := 1) (u := (Enc.enc (proof_2 : List (S3 (List Int) Int (List Int))))) (Enc.enc (proof_2 : List (S3 (List Int) Int (List Int)))) h1 rfl rfl ?_
    refine g_v (.int .i64 (proof_2.length : Int)) (ev_len (xs := proof_2) rfl) ?_
    refine g_v2 (t1 := 10) (t2 := 12) (u1 := (.int .i64 i_5)) (u2 := (.int .i64 (proof_2.length : Int))) (.bool (decide (i_5 < (proof_2.length : Int)))) rfl rfl rfl rfl ?_
    refine g_end ?_
    refine e_end ?_
    refine renew [(1, (Enc.enc (proof_2 : List (S3 (List Int) Int (List Int))))), (2, (.ref (.bx 2) 0 [] (.agg [(.int .i64 g_1.1), (Enc.enc (g_1.2 : List (Int × Int)))]))), (4, (.bool false)), (5, (.int .i64 i_5)), (13, (.bool (decide (i_5 < (proof_2.length : Int)))))] ⟨h1, h2, h4, h5, rfl⟩ ?_
    rintro s ⟨h1, h2, h4, h5, h13⟩
    refine .nsq ?_
    refine run_cond (t := decide (i_5 < (proof_2.length : Int))) h13 h (fun h => ?_) (fun h => ?_)
    · refine .skip ?_
      refine .nsq ?_
      refine .seq ?_
      refine .block ?_
      refine .seq ?_
      refine run_reg ?_
      refine e_end ?_
      refine g_v1 (t := 2) (u := (.ref (.bx 2) 0 [] (.agg [(.int .i64 g_1.1), (Enc.enc (g_1.2 : List (Int × Int)))]))) (.agg [(.int .i64 g_1.1), (Enc.enc (g_1.2 : List (Int × Int)))]) h2 rfl rfl ?_
      refine g_v1 (t := 1) (u := (Enc.enc (proof_2 : List (S3 (List Int) Int (List Int))))) (Enc.enc (proof_2 : List (S3 (List Int) Int (List Int)))) h1 rfl rfl ?_
      refine g_v1 (t := 5) (u := (.int .i64 i_5)) (.int .i64 i_5) h5 rfl rfl ?_
      obtain ⟨r_7, E_r_7, h⟩ := bind_some h
      refine g_call (m := 0) (al := false) (r := (Enc.enc (r_7 : Bool))) [Enc.enc (g_1 : (Int × (List (Int × Int)))), Enc.enc (proof_2 : (List (S3 (List Int) Int (List Int)))), Enc.enc (i_5 : Int)] (ta_cons (v := (.agg [(.int .i64 g_1.1), (Enc.enc (g_1.2 : List (Int × Int)))])) rfl rfl (Enc.erase_enc (g_1 : (Int × (List (Int × Int))))) (ta_cons (v := (Enc.enc (proof_2 : List (S3 (List Int) Int (List Int))))) rfl rfl (Enc.erase_enc (proof_2 : (List (S3 (List Int) Int (List Int))))) (ta_cons (v := (.int .i64 i_5)) rfl rfl rfl ta_nil))) (H.c102 _ _ _ _ E_r_7) H.g102 rfl rfl rfl rfl ?_
      refine g_v1 (t := 19) (u := (.bool r_7)) (.bool (!r_7)) rfl rfl rfl ?_
      refine g_end ?_
      refine e_end ?_
      refine renew [(1, (Enc.enc (proof_2 : List (S3 (List Int) Int (List Int))))), (2, (.ref (.bx 2) 0 [] (.agg [(.int .i64 g_1.1), (Enc.enc (g_1.2 : List (Int × Int)))]))), (4, (.bool false)), (5, (.int .i64 i_5)), (20, (.bool (!r_7)))] ⟨h1, h2, h4, h5, rfl⟩ ?_
      rintro s ⟨h1, h2, h4, h5, h20⟩
      refine .nsq ?_
      refine run_cond (t := (!r_7)) h20 h (fun h => ?_) (fun h => ?_)
      · refine .seq ?_
        refine run_reg ?_
        refine e_end ?_
        refine g_v0 (.bool false) rfl rfl ?_
        refine g_end ?_
        refine e_end ?_
        refine renew [(1, (Enc.enc (proof_2 : List (S3 (List Int) Int (List Int))))), (2, (.ref (.bx 2) 0 [] (.agg [(.int .i64 g_1.1), (Enc.enc (g_1.2 : List (Int × Int)))]))), (4, (.bool false)), (5, (.int .i64 i_5))] ⟨h1, h2, rfl, h5⟩ ?_
        rintro s ⟨h1, h2, h4, h5⟩
        refine .nsq ?_
        refine .ret ?_
        have hr := Option.some.inj h
        subst hr
        exact rrA (res_tmp h4) rfl
      · refine .skip ?_
        refine .nbk ?_
        refine .nsq ?_
        refine run_reg ?_
        refine e_end ?_
        refine g_v1 (t := 5) (u := (.int .i64 i_5)) (.int .i64 i_5) h5 rfl rfl ?_
        refine g_v1 (t := 14) (u := (.int .i64 i_5)) (.int .i64 (w64 (i_5 + 1))) rfl rfl rfl ?_
        refine g_v1 (t := 15) (u := (.int .i64 (w64 (i_5 + 1)))) (.int .i64 (w64 (i_5 + 1))) rfl rfl rfl ?_
        refine g_end ?_
        refine e_end ?_
        refine renew [(1, (Enc.enc (proof_2 : List (S3 (List Int) Int (List Int))))), (2, (.ref (.bx 2) 0 [] (.agg [(.int .i64 g_1.1), (Enc.enc (g_1.2 : List (Int × Int)))]))), (4, (.bool false)), (5, (.int .i64 (w64 (i_5 + 1))))] ⟨h1, h2, h4, rfl⟩ ?_
        rintro s ⟨h1, h2, h4, h5⟩
        refine .nlp ?_
        exact ih (w64 (i_5 + 1)) _ ⟨h1, h2, h4, h5⟩ h
    · refine .exit ?_
      refine .esq ?_
      refine .elp ?_
      refine .ebk ?_
      refine .nsq ?_
      refine .seq ?_
      refine run_reg ?_
      refine e_end ?_
      refine g_v0 (.bool true) rfl rfl ?_
      refine g_end ?_
      refine e_end ?_
      refine renew [(4, (.bool true))] rfl ?_
      rintro s h4
      refine .nsq ?_
      refine .ret ?_
      have hr := Option.some.inj h
      subst hr
      exact rrA (res_tmp h4) rfl
def s_l7Proof (F : Nat) (g_1 : (Int × (List (Int × Int)))) (proof_2 : (List (S3 (List Int) Int (List Int)))) : Option Bool :=
  (s_l1In F (proof_2.length : Int) 1 200).bind fun r_3 =>
  bif (!r_3) then
    some false
  else
    s_l7Proof_l1 F proof_2 g_1 F 0
theorem t60 (H : H60 D σ F) (g_1 : (Int × (List (Int × Int)))) (proof_2 : (List (S3 (List Int) Int (List Int)))) (s : Nat → V) (hs : Facts [(0, (.agg [(.int .i64 g_1.1), (Enc.enc (g_1.2 : List (Int × Int)))])), (1, (Enc.enc (proof_2 : List (S3 (List Int) Int (List Int)))))] s) (h : s_l7Proof F g_1 proof_2 = some r) : Run D σ (R60 r) (.run A60 []) s := by
  unfold s_l7Proof at h
  obtain ⟨h0, h1⟩ := hs
  refine .seq ?_
  refine run_reg ?_
  refine e_clr ?_
  refine e_end ?_
  refine g_box (.agg [(.int .i64 g_1.1), (Enc.enc (g_1.2 : List (Int × Int)))]) (rd_of (keep_clear (s := s) (pk := [2]) h0 rfl (map_agg (maps_cons rfl (maps_cons (Enc.map_enc _ (g_1.2 : List (Int × Int))) maps_nil)))) rfl) (gone_clear (s := s) (pk := [2]) (t := 2) rfl) rfl ?_
  refine g_v0 (.bool false) rfl rfl ?_
  refine g_end ?_
  refine e_end ?_
  refine renew [(1, (Enc.enc (proof_2 : List (S3 (List Int) Int (List Int))))), (2, (.ref (.bx 2) 0 [] (.agg [(.int .i64 g_1.1), (Enc.enc (g_1.2 : List (Int × Int)))]))), (4, (.bool false))] ⟨(keep_clear (s := s) (pk := [2]) h1 rfl (Enc.map_enc _ (proof_2 : List (S3 (List Int) Int (List Int))))), rfl, rfl⟩ ?_
  rintro s ⟨h1, h2, h4⟩
  refine .nsq ?_
  refine .seq ?_
  refine .seq ?_
  refine run_reg ?_
  refine e_end ?_
  refine g_v1 (t := 1) (u := (Enc.enc (proof_2 : List (S3 (List Int) Int (List Int))))) (Enc.enc (proof_2 : List (S3 (List Int) Int (List Int)))) h1 rfl rfl ?_
  refine g_v (.int .i64 (proof_2.length : Int)) (ev_len (xs := proof_2) rfl) ?_
  obtain ⟨r_3, E_r_3, h⟩ := bind_some h
  refine g_call (m := 0) (al := false) (r := (Enc.enc (r_3 : Bool))) [Enc.enc ((proof_2.length : Int) : Int), Enc.enc (1 : Int), Enc.enc (200 : Int)] (ta_cons (v := (.int .i64 (proof_2.length : Int))) rfl rfl rfl (ta_cons (v := (.int .i64 1)) rfl rfl rfl (ta_cons (v := (.int .i64 200)) rfl rfl rfl ta_nil))) (H.c65 _ _ _ _ E_r_3) H.g65 rfl rfl rfl rfl ?_
  refine g_v1 (t := 8) (u := (.bool r_3)) (.bool (!r_3)) rfl rfl rfl ?_
  refine g_end ?_
  refine e_end ?_
  refine renew [(1, (Enc.enc (proof_2 : List (S3 (List Int) Int (List Int))))), (2, (.ref (.bx 2) 0 [] (.agg [(.int .i64 g_1.1), (Enc.enc (g_1.2 : List (Int × Int)))]))), (4, (.bool false)), (9, (.bool (!r_3)))] ⟨h1, h2, h4, rfl⟩ ?_
  rintro s ⟨h1, h2, h4, h9⟩
  refine .nsq ?_
  refine run_cond (t := (!r_3)) h9 h (fun h => ?_) (fun h => ?_)
  · refine .seq ?_
    refine run_reg ?_
    refine e_end ?_
    refine g_v0 (.bool false) rfl rfl ?_
    refine g_end ?_
    refine e_end ?_
    refine renew [(1, (Enc.enc (proof_2 : List (S3 (List Int) Int (List Int))))), (2, (.ref (.bx 2) 0 [] (.agg [(.int .i64 g_1.1), (Enc.enc (g_1.2 : List (Int × Int)))]))), (4, (.bool false))] ⟨h1, h2, rfl⟩ ?_
    rintro s ⟨h1, h2, h4⟩
    refine .nsq ?_
    refine .ret ?_
    have hr := Option.some.inj h
    subst hr
    exact rrA (res_tmp h4) rfl
  · refine .skip ?_
    refine .nsq ?_
    refine .seq ?_
    refine .seq ?_
    refine run_reg ?_
    refine e_end ?_
    refine g_v0 (.int .i64 0) rfl rfl ?_
    refine g_end ?_
    refine e_end ?_
    refine renew [(1, (Enc.enc (proof_2 : List (S3 (List Int) Int (List Int))))), (2, (.ref (.bx 2) 0 [] (.agg [(.int .i64 g_1.1), (Enc.enc (g_1.2 : List (Int × Int)))]))), (4, (.bool false)), (5, (.int .i64 0))] ⟨h1, h2, h4, rfl⟩ ?_
    rintro s ⟨h1, h2, h4, h5⟩
    refine .nsq ?_
    refine .block ?_
    refine .loop ?_
    exact t_f60_l1 H proof_2 g_1 F 0 _ ⟨h1, h2, h4, h5⟩ h
end
def e60 (F : Nat) : Ent := ⟨60, da (fun (x : ((Int × (List (Int × Int))) × (List (S3 (List Int) Int (List Int))) × Unit)) => s_l7Proof F x.1 x.2.1) (fun (r : Bool) => (Enc.enc (r : Bool))), 0, false, selF []⟩
theorem p60 {F : Nat} {x0 : (Int × (List (Int × Int)))} {x1 : (List (S3 (List Int) Int (List Int)))} {r : Bool} (h : s_l7Proof F x0 x1 = some r) : (e60 F).den [Enc.enc x0, Enc.enc x1] = some (Enc.enc (r : Bool)) := da_put (f := fun (x : ((Int × (List (Int × Int))) × (List (S3 (List Int) Int (List Int))) × Unit)) => s_l7Proof F x.1 x.2.1) (t := fun (r : Bool) => (Enc.enc (r : Bool))) (x0, x1, ()) h
theorem o60 {D : Den} {σ : Sig} {F : Nat} (hF : Fits2 Try.prog D σ) (H : H60 D σ F) : (e60 F).Ok Try.prog := by
  refine ⟨fun args r h => ?_, ⟨Try.f60, Try.func60, rfl, rfl⟩⟩
  obtain ⟨⟨x0, x1, _⟩, y, rfl, hy, rfl⟩ := da_open h
  exact contract_run hF (by kernel_rfl) Try.func60 rfl c60 (show 2 ≤ Try.f60.ntmps by decide) (t60 H x0 x1 _ ⟨rfl, rfl⟩ hy)
/- loop.example/g01109/spec.IsDepthProof -/
def A35_2 : AC := (AC.cond (O.t 8) (AC.seq (AC.reg [] [(I.mk (some 4) none false (X.v (A.mov (O.k (V.bool false))))), (I.mk (some 5) none false (X.v (A.mov (O.k (V.bool false)))))] []) AC.ret) AC.skip)
def A35_3 : AC := (AC.seq (AC.reg [] [(I.mk (some 9) none false (X.v (A.load (Sh.ag [Sh.s, Sh.p]) (O.t 2)))), (I.mk (some 10) none false (X.v (A.mov (O.t 1)))), (I.mk (some 11) none false (X.call (O.k (V.fn 60 [] [])) [(O.t 9), (O.t 10)])), (I.mk (some 4) none false (X.v (A.mov (O.t 11)))), (I.mk (some 5) none false (X.v (A.mov (O.k (V.bool true)))))] []) AC.ret)
def A35_1 : AC := (AC.seq (AC.seq (AC.reg [] [(I.mk (some 6) none false (X.v (A.load (Sh.ag [Sh.s, Sh.p]) (O.t 2)))), (I.mk (some 7) none false (X.call (O.k (V.fn 42 [] [])) [(O.t 6)])), (I.mk (some 8) none false (X.v (A.un UnOp.not (O.t 7))))] []) A35_2) A35_3)
def A35 : AC := (AC.seq (AC.reg [.clr [2]] [(I.mk (some 2) none false (X.box (O.t 0))), (I.mk (some 4) none false (X.v (A.mov (O.k (V.bool false))))), (I.mk (some 5) none false (X.v (A.mov (O.k (V.bool false)))))] []) A35_1)
def an35 : List An := [{ id := 0, pre := [.clr [2]], ep := [], lin := [], sp := [] }]
theorem c35 : cC Try.prog Try.f35.ntmps an35 (Try.f35.body.getD .skip) = some A35 := by kernel_rfl
structure H35 (D : Den) (σ : Sig) (F : Nat) : Prop where
  c42 : ∀ (x0 : (Int × (List (Int × Int)))) r, s_l2Good F x0 = some r → D 42 [Enc.enc x0] = some (Enc.enc (r : Bool))
  g42 : σ 42 = some (0, false)
  c60 : ∀ (x0 : (Int × (List (Int × Int)))) (x1 : (List (S3 (List Int) Int (List Int)))) r, s_l7Proof F x0 x1 = some r → D 60 [Enc.enc x0, Enc.enc x1] = some (Enc.enc (r : Bool))
  g60 : σ 60 = some (0, false)
abbrev R35 (r : (Bool × Bool)) : (Nat → V) → Prop := RR Try.prog [.tmp 4, .tmp 5] 0 false (.tup [Enc.enc (r.1 : Bool), Enc.enc (r.2 : Bool)])
section
variable {D : Den} {σ : Sig} {F : Nat} {r : (Bool × Bool)}
def s_IsDepthProof (F : Nat) (g_1 : (Int × (List (Int × Int)))) (proof_2 : (List (S3 (List Int) Int (List Int)))) : Option (Bool × Bool) :=
  (s_l2Good F g_1).bind fun r_3 =>
  bif (!r_3) then
    some (false, false)
  else
    (s_l7Proof F g_1 proof_2).bind fun r_4 =>
    some (r_4, true)
theorem t35 (H : H35 D σ F) (g_1 : (Int × (List (Int × Int)))) (proof_2 : (List (S3 (List Int) Int (List Int)))) (s : Nat → V) (hs : Facts [(0, (.agg [(.int .i64 g_1.1), (Enc.enc (g_1.2 : List (Int × Int)))])), (1, (Enc.enc (proof_2 : List (S3 (List Int) Int (List Int)))))] s) (h : s_IsDepthProof F g_1 proof_2 = some r) : Run D σ (R35 r) (.run A35 []) s := by
  unfold s_IsDepthProof at h
  obtain ⟨h0, h1⟩ := hs
  refine .seq ?_
  refine run_reg ?_
  refine e_clr ?_
  refine e_end ?_
  refine g_box (.agg [(.int .i64 g_1.1), (Enc.enc (g_1.2 : List (Int × Int)))]) (rd_of (keep_clear (s := s) (pk := [2]) h0 rfl (map_agg (maps_cons rfl (maps_cons (Enc.map_enc _ (g_1.2 : List (Int × Int))) maps_nil)))) rfl) (gone_clear (s := s) (pk := [2]) (t := 2) rfl) rfl ?_
  refine g_v0 (.bool false) rfl rfl ?_
  refine g_v0 (.bool false) rfl rfl ?_
  refine g_end ?_
  refine e_end ?_
  refine renew [(1, (Enc.enc (proof_2 : List (S3 (List Int) Int (List Int))))), (2, (.ref (.bx 2) 0 [] (.agg [(.int .i64 g_1.1), (Enc.enc (g_1.2 : List (Int × Int)))]))), (4, (.bool false)), (5, (.bool false))] ⟨(keep_clear (s := s) (pk := [2]) h1 rfl (Enc.map_enc _ (proof_2 : List (S3 (List Int) Int (List Int))))), rfl, rfl, rfl⟩ ?_
  rintro s ⟨h1, h2, h4, h5⟩
  refine .nsq ?_
  refine .seq ?_
  refine .seq ?_
  refine run_reg ?_
  refine e_end ?_
  refine g_v1 (t := 2) (u := (.ref (.bx 2) 0 [] (.agg [(.int .i64 g_1.1), (Enc.enc (g_1.2 : List (Int × Int)))]))) (.agg [(.int .i64 g_1.1), (Enc.enc (g_1.2 : List (Int × Int)))]) h2 rfl rfl ?_
  obtain ⟨r_3, E_r_3, h⟩ := bind_some h
  refine g_call (m := 0) (al := false) (r := (Enc.enc (r_3 : Bool))) [Enc.enc (g_1 : (Int × (List (Int × Int))))] (ta_cons (v := (.agg [(.int .i64 g_1.1), (Enc.enc (g_1.2 : List (Int × Int)))])) rfl rfl (Enc.erase_enc (g_1 : (Int × (List (Int × Int))))) ta_nil) (H.c42 _ _ E_r_3) H.g42 rfl rfl rfl rfl ?_
  refine g_v1 (t := 7) (u := (.bool r_3)) (.bool (!r_3)) rfl rfl rfl ?_
  refine g_end ?_
  refine e_end ?_
  refine renew [(1, (Enc.enc (proof_2 : List (S3 (List Int) Int (List Int))))), (2, (.ref (.bx 2) 0 [] (.agg [(.int .i64 g_1.1), (Enc.enc (g_1.2 : List (Int × Int)))]))), (4, (.bool false)), (5, (.bool false)), (8, (.bool (!r_3)))] ⟨h1, h2, h4, h5, rfl⟩ ?_
  rintro s ⟨h1, h2, h4, h5, h8⟩
  refine .nsq ?_
  refine run_cond (t := (!r_3)) h8 h (fun h => ?_) (fun h => ?_)
  · refine .seq ?_
    refine run_reg ?_
    refine e_end ?_
    refine g_v0 (.bool false) rfl rfl ?_
    refine g_v0 (.bool false) rfl rfl ?_
    refine g_end ?_
    refine e_end ?_
    refine renew [(1, (Enc.enc (proof_2 : List (S3 (List Int) Int (List Int))))), (2, (.ref (.bx 2) 0 [] (.agg [(.int .i64 g_1.1), (Enc.enc (g_1.2 : List (Int × Int)))]))), (4, (.bool false)), (5, (.bool false))] ⟨h1, h2, rfl, rfl⟩ ?_
    rintro s ⟨h1, h2, h4, h5⟩
    refine .nsq ?_
    refine .ret ?_
    have hr := Option.some.inj h
    subst hr
    exact rrB (res_tmp h4) (res_tmp h5) rfl
  · refine .skip ?_
    refine .nsq ?_
    refine .seq ?_
    refine run_reg ?_
    refine e_end ?_
    refine g_v1 (t := 2) (u := (.ref (.bx 2) 0 [] (.agg [(.int .i64 g_1.1), (Enc.enc (g_1.2 : List (Int × Int)))]))) (.agg [(.int .i64 g_1.1), (Enc.enc (g_1.2 : List (Int × Int)))]) h2 rfl rfl ?_
    refine g_v1 (t := 1) (u := (Enc.enc (proof_2 : List (S3 (List Int) Int (List Int))))) (Enc.enc (proof_2 : List (S3 (List Int) Int (List Int)))) h1 rfl rfl ?_
    obtain ⟨r_4, E_r_4, h⟩ := bind_some h
    refine g_call (m := 0) (al := false) (r := (Enc.enc (r_4 : Bool))) [Enc.enc (g_1 : (Int × (List (Int × Int)))), Enc.enc (proof_2 : (List (S3 (List Int) Int (List Int))))] (ta_cons (v := (.agg [(.int .i64 g_1.1), (Enc.enc (g_1.2 : List (Int × Int)))])) rfl rfl (Enc.erase_enc (g_1 : (Int × (List (Int × Int))))) (ta_cons (v := (Enc.enc (proof_2 : List (S3 (List Int) Int (List Int))))) rfl rfl (Enc.erase_enc (proof_2 : (List (S3 (List Int) Int (List Int))))) ta_nil)) (H.c60 _ _ _ E_r_4) H.g60 rfl rfl rfl rfl ?_
    refine g_v1 (t := 11) (u := (.bool r_4)) (.bool r_4) rfl rfl rfl ?_
    refine g_v0 (.bool true) rfl rfl ?_
    refine g_end ?_
    refine e_end ?_
    refine renew [(4, (.bool r_4)), (5, (.bool true))] ⟨rfl, rfl⟩ ?_
    rintro s ⟨h4, h5⟩
    refine .nsq ?_
    refine .ret ?_
    have hr := Option.some.inj h
    subst hr
    exact rrB (res_tmp h4) (res_tmp h5) rfl
end
def e35 (F : Nat) : Ent := ⟨35, da (fun (x : ((Int × (List (Int × Int))) × (List (S3 (List Int) Int (List Int))) × Unit)) => s_IsDepthProof F x.1 x.2.1) (fun (r : (Bool × Bool)) => (.tup [Enc.enc (r.1 : Bool), Enc.enc (r.2 : Bool)])), 0, false, selF []⟩
theorem p35 {F : Nat} {x0 : (Int × (List (Int × Int)))} {x1 : (List (S3 (List Int) Int (List Int)))} {r : (Bool × Bool)} (h : s_IsDepthProof F x0 x1 = some r) : (e35 F).den [Enc.enc x0, Enc.enc x1] = some (.tup [Enc.enc (r.1 : Bool), Enc.enc (r.2 : Bool)]) := da_put (f := fun (x : ((Int × (List (Int × Int))) × (List (S3 (List Int) Int (List Int))) × Unit)) => s_IsDepthProof F x.1 x.2.1) (t := fun (r : (Bool × Bool)) => (.tup [Enc.enc (r.1 : Bool), Enc.enc (r.2 : Bool)])) (x0, x1, ()) h
theorem o35 {D : Den} {σ : Sig} {F : Nat} (hF : Fits2 Try.prog D σ) (H : H35 D σ F) : (e35 F).Ok Try.prog := by
  refine ⟨fun args r h => ?_, ⟨Try.f35, Try.func35, rfl, rfl⟩⟩
  obtain ⟨⟨x0, x1, _⟩, y, rfl, hy, rfl⟩ := da_open h
  exact contract_run hF (by kernel_rfl) Try.func35 rfl c35 (show 2 ≤ Try.f35.ntmps by decide) (t35 H x0 x1 _ ⟨rfl, rfl⟩ hy)
/- loop.example/g01109/impl.within -/
def A62_1 : AC := (AC.seq (AC.reg [] [(I.mk (some 7) none false (X.v (A.mov (O.t 0)))), (I.mk (some 8) none false (X.v (A.mov (O.t 1)))), (I.mk (some 9) none false (X.v (A.bin BinOp.geq (O.t 7) (O.t 8)))), (I.mk (some 10) none false (X.v (A.mov (O.t 9)))), (I.mk (some 11) (some (10, true)) false (X.v (A.mov (O.t 0)))), (I.mk (some 12) (some (10, true)) false (X.v (A.mov (O.t 2)))), (I.mk (some 13) (some (10, true)) false (X.v (A.bin BinOp.leq (O.t 11) (O.t 12)))), (I.mk (some 14) none false (X.v (A.pick (O.t 10) (O.t 13) (O.k (V.bool false))))), (I.mk (some 6) none false (X.v (A.mov (O.t 14))))] []) AC.ret)
def A62 : AC := (AC.seq (AC.reg [] [(I.mk (some 6) none false (X.v (A.mov (O.k (V.bool false)))))] []) A62_1)
def an62 : List An := []
theorem c62 : cC Try.prog Try.f62.ntmps an62 (Try.f62.body.getD .skip) = some A62 := by kernel_rfl
structure H62 (D : Den) (σ : Sig) (F : Nat) : Prop where
  mk ::
abbrev R62 (r : Bool) : (Nat → V) → Prop := RR Try.prog [.tmp 6] 0 false (Enc.enc (r : Bool))
section
variable {D : Den} {σ : Sig} {F : Nat} {r : Bool}
def i_within (F : Nat) (n_1 : Int) (low_2 : Int) (high_3 : Int) : Option Bool :=
  bif decide (n_1 ≥ low_2) then
    some (decide (n_1 ≤ high_3))
  else
    some false
theorem t62 (H : H62 D σ F) (n_1 : Int) (low_2 : Int) (high_3 : Int) (s : Nat → V) (hs : Facts [(0, (.int .i64 n_1)), (1, (.int .i64 low_2)), (2, (.int .i64 high_3))] s) (h : i_within F n_1 low_2 high_3 = some r) : Run D σ (R62 r) (.run A62 []) s := by
  unfold i_within at h
  obtain ⟨h0, h1, h2⟩ := hs
  refine .seq ?_
  refine run_reg ?_
  refine e_end ?_
  refine g_v0 (.bool false) rfl rfl ?_
  refine g_end ?_
  refine e_end ?_
  refine renew [(0, (.int .i64 n_1)), (1, (.int .i64 low_2)), (2, (.int .i64 high_3)), (6, (.bool false))] ⟨h0, h1, h2, rfl⟩ ?_
  rintro s ⟨h0, h1, h2, h6⟩
  refine .nsq ?_
  refine .seq ?_
  refine run_reg ?_
  refine e_end ?_
  refine g_v1 (t := 0) (u := (.int .i64 n_1)) (.int .i64 n_1) h0 rfl rfl ?_
  refine g_v1 (t := 1) (u := (.int .i64 low_2)) (.int .i64 low_2) h1 rfl rfl ?_
  refine g_v2 (t1 := 7) (t2 := 8) (u1 := (.int .i64 n_1)) (u2 := (.int .i64 low_2)) (.bool (decide (n_1 ≥ low_2))) rfl rfl rfl rfl ?_
  refine g_v1 (t := 9) (u := (.bool (decide (n_1 ≥ low_2)))) (.bool (decide (n_1 ≥ low_2))) rfl rfl rfl ?_
  refine split_on (c := decide (n_1 ≥ low_2)) h (fun hg4 h => ?_) (fun hg4 h => ?_)
  · refine g_yes (Eq.trans (b := .bool (decide (n_1 ≥ low_2))) rfl (congrArg V.bool hg4)) (g_v1 (t := 0) (u := (.int .i64 n_1)) (.int .i64 n_1) h0 rfl rfl ?_)
    refine g_yes (Eq.trans (b := .bool (decide (n_1 ≥ low_2))) rfl (congrArg V.bool hg4)) (g_v1 (t := 2) (u := (.int .i64 high_3)) (.int .i64 high_3) h2 rfl rfl ?_)
    refine g_yes (Eq.trans (b := .bool (decide (n_1 ≥ low_2))) rfl (congrArg V.bool hg4)) (g_v2 (t1 := 11) (t2 := 12) (u1 := (.int .i64 n_1)) (u2 := (.int .i64 high_3)) (.bool (decide (n_1 ≤ high_3))) rfl rfl rfl rfl ?_)
    refine g_v2 (t1 := 10) (t2 := 13) (u1 := (.bool true)) (u2 := (.bool (decide (n_1 ≤ high_3)))) (.bool (decide (n_1 ≤ high_3))) (Eq.trans (b := .bool (decide (n_1 ≥ low_2))) rfl (congrArg V.bool hg4)) rfl rfl rfl ?_
    refine g_v1 (t := 14) (u := (.bool (decide (n_1 ≤ high_3)))) (.bool (decide (n_1 ≤ high_3))) rfl rfl rfl ?_
    refine g_end ?_
    refine e_end ?_
    refine renew [(6, (.bool (decide (n_1 ≤ high_3))))] rfl ?_
    rintro s h6
    refine .nsq ?_
    refine .ret ?_
    have hr := Option.some.inj h
    subst hr
    exact rrA (res_tmp h6) rfl
  · refine g_no (Eq.trans (b := .bool (decide (n_1 ≥ low_2))) rfl (congrArg V.bool hg4)) ?_
    refine g_no (Eq.trans (b := .bool (decide (n_1 ≥ low_2))) rfl (congrArg V.bool hg4)) ?_
    refine g_no (Eq.trans (b := .bool (decide (n_1 ≥ low_2))) rfl (congrArg V.bool hg4)) ?_
    refine g_v2 (t1 := 10) (t2 := 13) (u1 := (.bool false)) (u2 := (.tup [])) (.bool false) (Eq.trans (b := .bool (decide (n_1 ≥ low_2))) rfl (congrArg V.bool hg4)) rfl rfl rfl ?_
    refine g_v1 (t := 14) (u := (.bool false)) (.bool false) rfl rfl rfl ?_
    refine g_end ?_
    refine e_end ?_
    refine renew [(6, (.bool false))] rfl ?_
    rintro s h6
    refine .nsq ?_
    refine .ret ?_
    have hr := Option.some.inj h
    subst hr
    exact rrA (res_tmp h6) rfl
end
def e62 (F : Nat) : Ent := ⟨62, da (fun (x : (Int × Int × Int × Unit)) => i_within F x.1 x.2.1 x.2.2.1) (fun (r : Bool) => (Enc.enc (r : Bool))), 0, false, selF []⟩
theorem p62 {F : Nat} {x0 : Int} {x1 : Int} {x2 : Int} {r : Bool} (h : i_within F x0 x1 x2 = some r) : (e62 F).den [Enc.enc x0, Enc.enc x1, Enc.enc x2] = some (Enc.enc (r : Bool)) := da_put (f := fun (x : (Int × Int × Int × Unit)) => i_within F x.1 x.2.1 x.2.2.1) (t := fun (r : Bool) => (Enc.enc (r : Bool))) (x0, x1, x2, ()) h
theorem o62 {D : Den} {σ : Sig} {F : Nat} (hF : Fits2 Try.prog D σ) (H : H62 D σ F) : (e62 F).Ok Try.prog := by
  refine ⟨fun args r h => ?_, ⟨Try.f62, Try.func62, rfl, rfl⟩⟩
  obtain ⟨⟨x0, x1, x2, _⟩, y, rfl, hy, rfl⟩ := da_open h
  exact contract_run hF (by kernel_rfl) Try.func62 rfl c62 (show 3 ≤ Try.f62.ntmps by decide) (t62 H x0 x1 x2 _ ⟨rfl, rfl, rfl⟩ hy)
/- cmp.isNaN[int] -/
def A131_1 : AC := (AC.seq (AC.reg [] [(I.mk (some 3) none false (X.v (A.mov (O.t 0)))), (I.mk (some 4) none false (X.v (A.mov (O.t 0)))), (I.mk (some 5) none false (X.v (A.bin BinOp.neq (O.t 3) (O.t 4)))), (I.mk (some 2) none false (X.v (A.mov (O.t 5))))] []) AC.ret)
def A131 : AC := (AC.seq (AC.reg [] [(I.mk (some 2) none false (X.v (A.mov (O.k (V.bool false)))))] []) A131_1)
def an131 : List An := []
theorem c131 : cC Try.prog Try.f131.ntmps an131 (Try.f131.body.getD .skip) = some A131 := by kernel_rfl
structure H131 (D : Den) (σ : Sig) (F : Nat) : Prop where
  mk ::
abbrev R131 (r : Bool) : (Nat → V) → Prop := RR Try.prog [.tmp 2] 0 false (Enc.enc (r : Bool))
section
variable {D : Den} {σ : Sig} {F : Nat} {r : Bool}
def cmp_isNaN_int (F : Nat) (x_1 : Int) : Option Bool :=
  some (x_1 != x_1)
theorem t131 (H : H131 D σ F) (x_1 : Int) (s : Nat → V) (hs : Facts [(0, (.int .i64 x_1))] s) (h : cmp_isNaN_int F x_1 = some r) : Run D σ (R131 r) (.run A131 []) s := by
  unfold cmp_isNaN_int at h
  have h0 := hs
  refine .seq ?_
  refine run_reg ?_
  refine e_end ?_
  refine g_v0 (.bool false) rfl rfl ?_
  refine g_end ?_
  refine e_end ?_
  refine renew [(0, (.int .i64 x_1)), (2, (.bool false))] ⟨h0, rfl⟩ ?_
  rintro s ⟨h0, h2⟩
  refine .nsq ?_
  refine .seq ?_
  refine run_reg ?_
  refine e_end ?_
  refine g_v1 (t := 0) (u := (.int .i64 x_1)) (.int .i64 x_1) h0 rfl rfl ?_
  refine g_v1 (t := 0) (u := (.int .i64 x_1)) (.int .i64 x_1) h0 rfl rfl ?_
  refine g_v2 (t1 := 3) (t2 := 4) (u1 := (.int .i64 x_1)) (u2 := (.int .i64 x_1)) (.bool (x_1 != x_1)) rfl rfl rfl rfl ?_
  refine g_v1 (t := 5) (u := (.bool (x_1 != x_1))) (.bool (x_1 != x_1)) rfl rfl rfl ?_
  refine g_end ?_
  refine e_end ?_
  refine renew [(2, (.bool (x_1 != x_1)))] rfl ?_
  rintro s h2
  refine .nsq ?_
  refine .ret ?_
  have hr := Option.some.inj h
  subst hr
  exact rrA (res_tmp h2) rfl
end
def e131 (F : Nat) : Ent := ⟨131, da (fun (x : (Int × Unit)) => cmp_isNaN_int F x.1) (fun (r : Bool) => (Enc.enc (r : Bool))), 0, false, selF []⟩
theorem p131 {F : Nat} {x0 : Int} {r : Bool} (h : cmp_isNaN_int F x0 = some r) : (e131 F).den [Enc.enc x0] = some (Enc.enc (r : Bool)) := da_put (f := fun (x : (Int × Unit)) => cmp_isNaN_int F x.1) (t := fun (r : Bool) => (Enc.enc (r : Bool))) (x0, ()) h
theorem o131 {D : Den} {σ : Sig} {F : Nat} (hF : Fits2 Try.prog D σ) (H : H131 D σ F) : (e131 F).Ok Try.prog := by
  refine ⟨fun args r h => ?_, ⟨Try.f131, Try.func131, rfl, rfl⟩⟩
  obtain ⟨⟨x0, _⟩, y, rfl, hy, rfl⟩ := da_open h
  exact contract_run hF (by kernel_rfl) Try.func131 rfl c131 (show 1 ≤ Try.f131.ntmps by decide) (t131 H x0 _ rfl hy)
/- cmp.Compare[int] -/
def A114_5 : AC := (AC.cond (O.t 12) (AC.seq (AC.reg [] [(I.mk (some 4) none false (X.v (A.mov (O.k (V.int IntKind.i64 (Int.ofNat 0))))))] []) AC.ret) AC.skip)
def A114_6 : AC := (AC.seq (AC.reg [] [(I.mk (some 4) none false (X.v (A.mov (O.k (V.int IntKind.i64 (Int.negSucc 0))))))] []) AC.ret)
def A114_4 : AC := (AC.cond (O.t 11) (AC.seq (AC.seq (AC.reg [] [(I.mk (some 12) none false (X.v (A.mov (O.t 6))))] []) A114_5) A114_6) AC.skip)
def A114_8 : AC := (AC.cond (O.t 13) (AC.seq (AC.reg [] [(I.mk (some 4) none false (X.v (A.mov (O.k (V.int IntKind.i64 (Int.ofNat 1))))))] []) AC.ret) AC.skip)
def A114_10 : AC := (AC.cond (O.t 16) (AC.seq (AC.reg [] [(I.mk (some 4) none false (X.v (A.mov (O.k (V.int IntKind.i64 (Int.negSucc 0))))))] []) AC.ret) AC.skip)
def A114_12 : AC := (AC.cond (O.t 19) (AC.seq (AC.reg [] [(I.mk (some 4) none false (X.v (A.mov (O.k (V.int IntKind.i64 (Int.ofNat 1))))))] []) AC.ret) AC.skip)
def A114_13 : AC := (AC.seq (AC.reg [] [(I.mk (some 4) none false (X.v (A.mov (O.k (V.int IntKind.i64 (Int.ofNat 0))))))] []) AC.ret)
def A114_11 : AC := (AC.seq (AC.seq (AC.reg [] [(I.mk (some 17) none false (X.v (A.mov (O.t 0)))), (I.mk (some 18) none false (X.v (A.mov (O.t 1)))), (I.mk (some 19) none false (X.v (A.bin BinOp.gtr (O.t 17) (O.t 18))))] []) A114_12) A114_13)
def A114_9 : AC := (AC.seq (AC.seq (AC.reg [] [(I.mk (some 14) none false (X.v (A.mov (O.t 0)))), (I.mk (some 15) none false (X.v (A.mov (O.t 1)))), (I.mk (some 16) none false (X.v (A.bin BinOp.lss (O.t 14) (O.t 15))))] []) A114_10) A114_11)
def A114_7 : AC := (AC.seq (AC.seq (AC.reg [] [(I.mk (some 13) none false (X.v (A.mov (O.t 6))))] []) A114_8) A114_9)
def A114_3 : AC := (AC.seq (AC.seq (AC.reg [] [(I.mk (some 11) none false (X.v (A.mov (O.t 5))))] []) A114_4) A114_7)
def A114_2 : AC := (AC.seq (AC.reg [] [(I.mk (some 9) none false (X.v (A.mov (O.t 1)))), (I.mk (some 10) none false (X.call (O.k (V.fn 131 [] [])) [(O.t 9)])), (I.mk (some 6) none false (X.v (A.mov (O.t 10))))] []) A114_3)
def A114_1 : AC := (AC.seq (AC.reg [] [(I.mk (some 7) none false (X.v (A.mov (O.t 0)))), (I.mk (some 8) none false (X.call (O.k (V.fn 131 [] [])) [(O.t 7)])), (I.mk (some 5) none false (X.v (A.mov (O.t 8))))] []) A114_2)
def A114 : AC := (AC.seq (AC.reg [] [(I.mk (some 4) none false (X.v (A.mov (O.k (V.int IntKind.i64 (Int.ofNat 0))))))] []) A114_1)
def an114 : List An := []
theorem c114 : cC Try.prog Try.f114.ntmps an114 (Try.f114.body.getD .skip) = some A114 := by kernel_rfl
structure H114 (D : Den) (σ : Sig) (F : Nat) : Prop where
  c131 : ∀ (x0 : Int) r, cmp_isNaN_int F x0 = some r → D 131 [Enc.enc x0] = some (Enc.enc (r : Bool))
  g131 : σ 131 = some (0, false)
abbrev R114 (r : Int) : (Nat → V) → Prop := RR Try.prog [.tmp 4] 0 false (Enc.enc (r : Int))
section
variable {D : Den} {σ : Sig} {F : Nat} {r : Int}
def cmp_Compare_int (F : Nat) (x_1 : Int) (y_2 : Int) : Option Int :=
  (cmp_isNaN_int F x_1).bind fun r_3 =>
  (cmp_isNaN_int F y_2).bind fun r_4 =>
  bif r_3 then
    bif r_4 then
      some 0
    else
      some (-1)
  else
    bif r_4 then
      some 1
    else
      bif decide (x_1 < y_2) then
        some (-1)
      else
        bif decide (x_1 > y_2) then
          some 1
        else
          some 0
theorem t114 (H : H114 D σ F) (x_1 : Int) (y_2 : Int) (s : Nat → V) (hs : Facts [(0, (.int .i64 x_1)), (1, (.int .i64 y_2))] s) (h : cmp_Compare_int F x_1 y_2 = some r) : Run D σ (R114 r) (.run A114 []) s := by
  unfold cmp_Compare_int at h
  obtain ⟨h0, h1⟩ := hs
  refine .seq ?_
  refine run_reg ?_
  refine e_end ?_
  refine g_v0 (.int .i64 0) rfl rfl ?_
  refine g_end ?_
  refine e_end ?_
  refine renew [(0, (.int .i64 x_1)), (1, (.int .i64 y_2)), (4, (.int .i64 0))] ⟨h0, h1, rfl⟩ ?_
  rintro s ⟨h0, h1, h4⟩
  refine .nsq ?_
  refine .seq ?_
  refine run_reg ?_
  refine e_end ?_
  refine g_v1 (t := 0) (u := (.int .i64 x_1)) (.int .i64 x_1) h0 rfl rfl ?_
  obtain ⟨r_3, E_r_3, h⟩ := bind_some h
  refine g_call (m := 0) (al := false) (r := (Enc.enc (r_3 : Bool))) [Enc.enc (x_1 : Int)] (ta_cons (v := (.int .i64 x_1)) rfl rfl rfl ta_nil) (H.c131 _ _ E_r_3) H.g131 rfl rfl rfl rfl ?_
  refine g_v1 (t := 8) (u := (.bool r_3)) (.bool r_3) rfl rfl rfl ?_
  refine g_end ?_
  refine e_end ?_
  refine renew [(0, (.int .i64 x_1)), (1, (.int .i64 y_2)), (4, (.int .i64 0)), (5, (.bool r_3))] ⟨h0, h1, h4, rfl⟩ ?_
  rintro s ⟨h0, h1, h4, h5⟩
  refine .nsq ?_
  refine .seq ?_
  refine run_reg ?_
  refine e_end ?_
  refine g_v1 (t := 1) (u := (.int .i64 y_2)) (.int .i64 y_2) h1 rfl rfl ?_
  obtain ⟨r_4, E_r_4, h⟩ := bind_some h
  refine g_call (m := 0) (al := false) (r := (Enc.enc (r_4 : Bool))) [Enc.enc (y_2 : Int)] (ta_cons (v := (.int .i64 y_2)) rfl rfl rfl ta_nil) (H.c131 _ _ E_r_4) H.g131 rfl rfl rfl rfl ?_
  refine g_v1 (t := 10) (u := (.bool r_4)) (.bool r_4) rfl rfl rfl ?_
  refine g_end ?_
  refine e_end ?_
  refine renew [(0, (.int .i64 x_1)), (1, (.int .i64 y_2)), (4, (.int .i64 0)), (5, (.bool r_3)), (6, (.bool r_4))] ⟨h0, h1, h4, h5, rfl⟩ ?_
  rintro s ⟨h0, h1, h4, h5, h6⟩
  refine .nsq ?_
  refine .seq ?_
  refine .seq ?_
  refine run_reg ?_
  refine e_end ?_
  refine g_v1 (t := 5) (u := (.bool r_3)) (.bool r_3) h5 rfl rfl ?_
  refine g_end ?_
  refine e_end ?_
  refine renew [(0, (.int .i64 x_1)), (1, (.int .i64 y_2)), (4, (.int .i64 0)), (6, (.bool r_4)), (11, (.bool r_3))] ⟨h0, h1, h4, h6, rfl⟩ ?_
  rintro s ⟨h0, h1, h4, h6, h11⟩
  refine .nsq ?_
  refine run_cond (t := r_3) h11 h (fun h => ?_) (fun h => ?_)
  · refine .seq ?_
    refine .seq ?_
    refine run_reg ?_
    refine e_end ?_
    refine g_v1 (t := 6) (u := (.bool r_4)) (.bool r_4) h6 rfl rfl ?_
    refine g_end ?_
    refine e_end ?_
    refine renew [(0, (.int .i64 x_1)), (1, (.int .i64 y_2)), (4, (.int .i64 0)), (6, (.bool r_4)), (12, (.bool r_4))] ⟨h0, h1, h4, h6, rfl⟩ ?_
    rintro s ⟨h0, h1, h4, h6, h12⟩
    refine .nsq ?_
    refine run_cond (t := r_4) h12 h (fun h => ?_) (fun h => ?_)
    · refine .seq ?_
      refine run_reg ?_
      refine e_end ?_
      refine g_v0 (.int .i64 0) rfl rfl ?_
      refine g_end ?_
      refine e_end ?_
      refine renew [(0, (.int .i64 x_1)), (1, (.int .i64 y_2)), (4, (.int .i64 0)), (6, (.bool r_4))] ⟨h0, h1, rfl, h6⟩ ?_
      rintro s ⟨h0, h1, h4, h6⟩
      refine .nsq ?_
      refine .ret ?_
      have hr := Option.some.inj h
      subst hr
      exact rrA (res_tmp h4) rfl
    · refine .skip ?_
      refine .nsq ?_
      refine .seq ?_
      refine run_reg ?_
      refine e_end ?_
      refine g_v0 (.int .i64 (-1)) rfl rfl ?_
      refine g_end ?_
      refine e_end ?_
      refine renew [(0, (.int .i64 x_1)), (1, (.int .i64 y_2)), (4, (.int .i64 (-1))), (6, (.bool r_4))] ⟨h0, h1, rfl, h6⟩ ?_
      rintro s ⟨h0, h1, h4, h6⟩
      refine .nsq ?_
      refine .ret ?_
      have hr := Option.some.inj h
      subst hr
      exact rrA (res_tmp h4) rfl
  · refine .skip ?_
    refine .nsq ?_
    refine .seq ?_
    refine .seq ?_
    refine run_reg ?_
    refine e_end ?_
    refine g_v1 (t := 6) (u := (.bool r_4)) (.bool r_4) h6 rfl rfl ?_
    refine g_end ?_
    refine e_end ?_
    refine renew [(0, (.int .i64 x_1)), (1, (.int .i64 y_2)), (4, (.int .i64 0)), (13, (.bool r_4))] ⟨h0, h1, h4, rfl⟩ ?_
    rintro s ⟨h0, h1, h4, h13⟩
    refine .nsq ?_
    refine run_cond (t := r_4) h13 h (fun h => ?_) (fun h => ?_)
    · refine .seq ?_
      refine run_reg ?_
      refine e_end ?_
      refine g_v0 (.int .i64 1) rfl rfl ?_
      refine g_end ?_
      refine e_end ?_
      refine renew [(0, (.int .i64 x_1)), (1, (.int .i64 y_2)), (4, (.int .i64 1))] ⟨h0, h1, rfl⟩ ?_
      rintro s ⟨h0, h1, h4⟩
      refine .nsq ?_
      refine .ret ?_
      have hr := Option.some.inj h
      subst hr
      exact rrA (res_tmp h4) rfl
    · refine .skip ?_
      refine .nsq ?_
      refine .seq ?_
      refine .seq ?_
      refine run_reg ?_
      refine e_end ?_
      refine g_v1 (t := 0) (u := (.int .i64 x_1)) (.int .i64 x_1) h0 rfl rfl ?_
      refine g_v1 (t := 1) (u := (.int .i64 y_2)) (.int .i64 y_2) h1 rfl rfl ?_
      refine g_v2 (t1 := 14) (t2 := 15) (u1 := (.int .i64 x_1)) (u2 := (.int .i64 y_2)) (.bool (decide (x_1 < y_2))) rfl rfl rfl rfl ?_
      refine g_end ?_
      refine e_end ?_
      refine renew [(0, (.int .i64 x_1)), (1, (.int .i64 y_2)), (4, (.int .i64 0)), (16, (.bool (decide (x_1 < y_2))))] ⟨h0, h1, h4, rfl⟩ ?_
      rintro s ⟨h0, h1, h4, h16⟩
      refine .nsq ?_
      refine run_cond (t := decide (x_1 < y_2)) h16 h (fun h => ?_) (fun h => ?_)
      · refine .seq ?_
        refine run_reg ?_
        refine e_end ?_
        refine g_v0 (.int .i64 (-1)) rfl rfl ?_
        refine g_end ?_
        refine e_end ?_
        refine renew [(0, (.int .i64 x_1)), (1, (.int .i64 y_2)), (4, (.int .i64 (-1)))] ⟨h0, h1, rfl⟩ ?_
        rintro s ⟨h0, h1, h4⟩
        refine .nsq ?_
        refine .ret ?_
        have hr := Option.some.inj h
        subst hr
        exact rrA (res_tmp h4) rfl
      · refine .skip ?_
        refine .nsq ?_
        refine .seq ?_
        refine .seq ?_
        refine run_reg ?_
        refine e_end ?_
        refine g_v1 (t := 0) (u := (.int .i64 x_1)) (.int .i64 x_1) h0 rfl rfl ?_
        refine g_v1 (t := 1) (u := (.int .i64 y_2)) (.int .i64 y_2) h1 rfl rfl ?_
        refine g_v2 (t1 := 17) (t2 := 18) (u1 := (.int .i64 x_1)) (u2 := (.int .i64 y_2)) (.bool (decide (x_1 > y_2))) rfl rfl rfl rfl ?_
        refine g_end ?_
        refine e_end ?_
        refine renew [(4, (.int .i64 0)), (19, (.bool (decide (x_1 > y_2))))] ⟨h4, rfl⟩ ?_
        rintro s ⟨h4, h19⟩
        refine .nsq ?_
        refine run_cond (t := decide (x_1 > y_2)) h19 h (fun h => ?_) (fun h => ?_)
        · refine .seq ?_
          refine run_reg ?_
          refine e_end ?_
          refine g_v0 (.int .i64 1) rfl rfl ?_
          refine g_end ?_
          refine e_end ?_
          refine renew [(4, (.int .i64 1))] rfl ?_
          rintro s h4
          refine .nsq ?_
          refine .ret ?_
          have hr := Option.some.inj h
          subst hr
          exact rrA (res_tmp h4) rfl
        · refine .skip ?_
          refine .nsq ?_
          refine .seq ?_
          refine run_reg ?_
          refine e_end ?_
          refine g_v0 (.int .i64 0) rfl rfl ?_
          refine g_end ?_
          refine e_end ?_
          refine renew [(4, (.int .i64 0))] rfl ?_
          rintro s h4
          refine .nsq ?_
          refine .ret ?_
          have hr := Option.some.inj h
          subst hr
          exact rrA (res_tmp h4) rfl
end
def e114 (F : Nat) : Ent := ⟨114, da (fun (x : (Int × Int × Unit)) => cmp_Compare_int F x.1 x.2.1) (fun (r : Int) => (Enc.enc (r : Int))), 0, false, selF []⟩
theorem p114 {F : Nat} {x0 : Int} {x1 : Int} {r : Int} (h : cmp_Compare_int F x0 x1 = some r) : (e114 F).den [Enc.enc x0, Enc.enc x1] = some (Enc.enc (r : Int)) := da_put (f := fun (x : (Int × Int × Unit)) => cmp_Compare_int F x.1 x.2.1) (t := fun (r : Int) => (Enc.enc (r : Int))) (x0, x1, ()) h
theorem o114 {D : Den} {σ : Sig} {F : Nat} (hF : Fits2 Try.prog D σ) (H : H114 D σ F) : (e114 F).Ok Try.prog := by
  refine ⟨fun args r h => ?_, ⟨Try.f114, Try.func114, rfl, rfl⟩⟩
  obtain ⟨⟨x0, x1, _⟩, y, rfl, hy, rfl⟩ := da_open h
  exact contract_run hF (by kernel_rfl) Try.func114 rfl c114 (show 2 ≤ Try.f114.ntmps by decide) (t114 H x0 x1 _ ⟨rfl, rfl⟩ hy)
/- slices.Compare[[]int,int] -/
def A81_5 : AC := (AC.cond (O.t 19) (AC.seq (AC.reg [] [(I.mk (some 4) none false (X.v (A.mov (O.k (V.int IntKind.i64 (Int.ofNat 1))))))] []) AC.ret) AC.skip)
def A81_9 : AC := (AC.cond (O.t 28) (AC.seq (AC.reg [] [(I.mk (some 29) none false (X.v (A.mov (O.t 8)))), (I.mk (some 4) none false (X.v (A.mov (O.t 29))))] []) AC.ret) AC.skip)
def A81_8 : AC := (AC.seq (AC.reg [] [(I.mk (some 27) none false (X.v (A.mov (O.t 8)))), (I.mk (some 28) none false (X.v (A.bin BinOp.neq (O.t 27) (O.k (V.int IntKind.i64 (Int.ofNat 0))))))] []) A81_9)
def A81_7 : AC := (AC.seq (AC.reg [] [(I.mk (some 24) none false (X.v (A.mov (O.t 6)))), (I.mk (some 25) none false (X.v (A.mov (O.t 7)))), (I.mk (some 26) none false (X.call (O.k (V.fn 114 [] [])) [(O.t 24), (O.t 25)])), (I.mk (some 8) none false (X.v (A.mov (O.t 26))))] []) A81_8)
def A81_6 : AC := (AC.seq (AC.reg [] [(I.mk (some 20) none false (X.v (A.mov (O.t 1)))), (I.mk (some 21) none false (X.v (A.mov (O.t 5)))), (I.mk (some 22) none false (X.v (A.idx (O.t 20) (O.t 21) 1))), (I.mk (some 23) none false (X.v (A.load Sh.s (O.t 22)))), (I.mk (some 7) none false (X.v (A.mov (O.t 23))))] []) A81_7)
def A81_4 : AC := (AC.seq (AC.seq (AC.reg [] [(I.mk (some 16) none false (X.v (A.mov (O.t 5)))), (I.mk (some 17) none false (X.v (A.mov (O.t 1)))), (I.mk (some 18) none false (X.v (A.len (O.t 17)))), (I.mk (some 19) none false (X.v (A.bin BinOp.geq (O.t 16) (O.t 18))))] []) A81_5) A81_6)
def A81_10 : AC := (AC.reg [] [(I.mk (some 30) none false (X.v (A.bin BinOp.add (O.t 11) (O.k (V.int IntKind.i64 (Int.ofNat 1)))))), (I.mk (some 11) none false (X.v (A.mov (O.t 30))))] [])
def A81_3 : AC := (AC.seq (AC.block 1 (AC.seq (AC.reg [] [(I.mk (some 13) none false (X.v (A.mov (O.t 11)))), (I.mk (some 14) none false (X.v (A.idx (O.t 9) (O.t 11) 1))), (I.mk (some 15) none false (X.v (A.load Sh.s (O.t 14)))), (I.mk (some 5) none false (X.v (A.mov (O.t 13)))), (I.mk (some 6) none false (X.v (A.mov (O.t 15))))] []) A81_4)) A81_10)
def A81_2 : AC := (AC.seq (AC.cond (O.t 12) AC.skip (AC.exit 0)) A81_3)
def A81_1 : AC := (AC.seq (AC.reg [] [(I.mk (some 12) none false (X.v (A.bin BinOp.lss (O.t 11) (O.t 10))))] []) A81_2)
def A81_12 : AC := (AC.cond (O.t 35) (AC.seq (AC.reg [] [(I.mk (some 4) none false (X.v (A.mov (O.k (V.int IntKind.i64 (Int.negSucc 0))))))] []) AC.ret) AC.skip)
def A81_13 : AC := (AC.seq (AC.reg [] [(I.mk (some 4) none false (X.v (A.mov (O.k (V.int IntKind.i64 (Int.ofNat 0))))))] []) AC.ret)
def A81_11 : AC := (AC.seq (AC.seq (AC.reg [] [(I.mk (some 31) none false (X.v (A.mov (O.t 0)))), (I.mk (some 32) none false (X.v (A.len (O.t 31)))), (I.mk (some 33) none false (X.v (A.mov (O.t 1)))), (I.mk (some 34) none false (X.v (A.len (O.t 33)))), (I.mk (some 35) none false (X.v (A.bin BinOp.lss (O.t 32) (O.t 34))))] []) A81_12) A81_13)
def A81_15 : AC := (AC.block 0 (AC.loop A81_1))
def A81_14 : AC := (AC.seq (AC.seq (AC.reg [] [(I.mk (some 9) none false (X.v (A.mov (O.t 0)))), (I.mk (some 10) none false (X.v (A.len (O.t 9)))), (I.mk (some 11) none false (X.v (A.mov (O.k (V.int IntKind.i64 (Int.ofNat 0))))))] []) A81_15) A81_11)
def A81 : AC := (AC.seq (AC.reg [] [(I.mk (some 4) none false (X.v (A.mov (O.k (V.int IntKind.i64 (Int.ofNat 0))))))] []) A81_14)
def an81 : List An := []
theorem c81 : cC Try.prog Try.f81.ntmps an81 (Try.f81.body.getD .skip) = some A81 := by kernel_rfl
structure H81 (D : Den) (σ : Sig) (F : Nat) : Prop where
  c114 : ∀ (x0 : Int) (x1 : Int) r, cmp_Compare_int F x0 x1 = some r → D 114 [Enc.enc x0, Enc.enc x1] = some (Enc.enc (r : Int))
  g114 : σ 114 = some (0, false)
abbrev R81 (r : Int) : (Nat → V) → Prop := RR Try.prog [.tmp 4] 0 false (Enc.enc (r : Int))
section
variable {D : Den} {σ : Sig} {F : Nat} {r : Int}
def slices_Compare_l1 (F : Nat) (s1_1 : (List Int)) (s2_2 : (List Int))  : Nat → Int → Option Int
  | 0, _ => none
  | k + 1, t11_6 =>
    bif decide (t11_6 < (s1_1.length : Int)) then
      (idx s1_1 t11_6).bind fun e_10 =>
      bif decide (t11_6 ≥ (s2_2.length : Int)) then
        some 1
      else
        (idx s2_2 t11_6).bind fun e_11 =>
        (cmp_Compare_int F e_10 e_11).bind fun r_12 =>
        bif (r_12 != 0) then
          some r_12
        else
          (slices_Compare_l1 F s1_1 s2_2 k) (w64 (t11_6 + 1))
    else
      bif decide ((s1_1.length : Int) < (s2_2.length : Int)) then
        some (-1)
      else
        some 0
theorem t_f81_l1 (H : H81 D σ F) (s1_1 : (List Int)) (s2_2 : (List Int))  : ∀ (k : Nat) (t11_6 : Int) (s : Nat → V), Facts [(0, (Enc.enc (s1_1 : List Int))), (1, (Enc.enc (s2_2 : List Int))), (4, (.int .i64 0)), (9, (Enc.enc (s1_1 : List Int))), (10, (.int .i64 (s1_1.length : Int))), (11, (.int .i64 t11_6))] s → slices_Compare_l1 F s1_1 s2_2 k t11_6 = some r → Run D σ (R81 r) (.run A81_1 [.lp A81_1, .bk 0, .sq A81_11]) s := by
  intro k
  induction k with
  | zero => intro t11_6 s _ h; exact nomatch (h : (none : Option _) = some r)
  | succ k ih =>
    intro t11_6 s hs h
    rw [slices_Compare_l1] at h
    obtain ⟨h0, h1, h4, h9, h10, h11⟩ := hs
    refine .seq ?_
    refine run_reg ?_
    refine e_end ?_
    refine g_v2 (t1 := 11) (t2 := 10) (u1 := (.int .i64 t11_6)) (u2 := (.int .i64 (s1_1.length : Int))) (.bool (decide (t11_6 < (s1_1.length : Int)))) h11 h10 rfl rfl ?_
    refine g_end ?_
    refine e_end ?_
    refine renew [(0, (Enc.enc (s1_1 : List Int))), (1, (Enc.enc (s2_2 : List Int))), (4, (.int .i64 0)), (9, (Enc.enc (s1_1 : List Int))), (10, (.int .i64 (s1_1.length : Int))), (11, (.int .i64 t11_6)), (12, (.bool (decide (t11_6 < (s1_1.length : Int)))))] ⟨h0, h1, h4, h9, h10, h11, rfl⟩ ?_
    rintro s ⟨h0, h1, h4, h9, h10, h11, h12⟩
    refine .nsq ?_
    refine .seq ?_
    refine run_cond (t := decide (t11_6 < (s1_1.length : Int))) h12 h (fun h => ?_) (fun h => ?_)
    · refine .skip ?_
      refine .nsq ?_
      refine .seq ?_
      refine .block ?_
      refine .seq ?_
      refine run_reg ?_
      refine e_end ?_
      refine g_v1 (t := 11) (u := (.int .i64 t11_6)) (.int .i64 t11_6) h11 rfl rfl ?_
      obtain ⟨e_10, E_e_10, h⟩ := bind_some h
      refine g_v (.ref .sh 0 [] (.int .i64 e_10)) (ev_idx (t := .sh) (lo := 0) (xs := s1_1) h9 h11 E_e_10 rfl rfl) ?_
      refine g_v1 (t := 14) (u := (.ref .sh 0 [] (.int .i64 e_10))) (.int .i64 e_10) rfl rfl rfl ?_
      refine g_v1 (t := 13) (u := (.int .i64 t11_6)) (.int .i64 t11_6) rfl rfl rfl ?_
      refine g_v1 (t := 15) (u := (.int .i64 e_10)) (.int .i64 e_10) rfl rfl rfl ?_
      refine g_end ?_
      refine e_end ?_
      refine renew [(0, (Enc.enc (s1_1 : List Int))), (1, (Enc.enc (s2_2 : List Int))), (4, (.int .i64 0)), (5, (.int .i64 t11_6)), (6, (.int .i64 e_10)), (9, (Enc.enc (s1_1 : List Int))), (10, (.int .i64 (s1_1.length : Int))), (11, (.int .i64 t11_6))] ⟨h0, h1, h4, rfl, rfl, h9, h10, h11⟩ ?_
      rintro s ⟨h0, h1, h4, h5, h6, h9, h10, h11⟩
      refine .nsq ?_
      refine .seq ?_
      refine .seq ?_
      refine run_reg ?_
      refine e_end ?_
      refine g_v1 (t := 5) (u := (.int .i64 t11_6)) (.int .i64 t11_6) h5 rfl rfl ?_
      refine g_v1 (t := 1) (u := (Enc.enc (s2_2 : List Int))) (Enc.enc (s2_2 : List Int)) h1 rfl rfl ?_
      refine g_v (.int .i64 (s2_2.length : Int)) (ev_len (xs := s2_2) rfl) ?_
      refine g_v2 (t1 := 16) (t2 := 18) (u1 := (.int .i64 t11_6)) (u2 := (.int .i64 (s2_2.length : Int))) (.bool (decide (t11_6 ≥ (s2_2.length : Int)))) rfl rfl rfl rfl ?_
      refine g_end ?_
      refine e_end ?_
      refine renew [(0, (Enc.enc (s1_1 : List Int))), (1, (Enc.enc (s2_2 : List Int))), (4, (.int .i64 0)), (5, (.int .i64 t11_6)), (6, (.int .i64 e_10)), (9, (Enc.enc (s1_1 : List Int))), (10, (.int .i64 (s1_1.length : Int))), (11, (.int .i64 t11_6)), (19, (.bool (decide (t11_6 ≥ (s2_2.length : Int)))))] ⟨h0, h1, h4, h5, h6, h9, h10, h11, rfl⟩ ?_
      rintro s ⟨h0, h1, h4, h5, h6, h9, h10, h11, h19⟩
      refine .nsq ?_
      refine run_cond (t := decide (t11_6 ≥ (s2_2.length : Int))) h19 h (fun h => ?_) (fun h => ?_)
      · refine .seq ?_
        refine run_reg ?_
        refine e_end ?_
        refine g_v0 (.int .i64 1) rfl rfl ?_
        refine g_end ?_
        refine e_end ?_
        refine renew [(0, (Enc.enc (s1_1 : List Int))), (1, (Enc.enc (s2_2 : List Int))), (4, (.int .i64 1)), (5, (.int .i64 t11_6)), (6, (.int .i64 e_10)), (9, (Enc.enc (s1_1 : List Int))), (10, (.int .i64 (s1_1.length : Int))), (11, (.int .i64 t11_6))] ⟨h0, h1, rfl, h5, h6, h9, h10, h11⟩ ?_
        rintro s ⟨h0, h1, h4, h5, h6, h9, h10, h11⟩
        refine .nsq ?_
        refine .ret ?_
        have hr := Option.some.inj h
        subst hr
        exact rrA (res_tmp h4) rfl
      · refine .skip ?_
        refine .nsq ?_
        refine .seq ?_
        refine run_reg ?_
        refine e_end ?_
        refine g_v1 (t := 1) (u := (Enc.enc (s2_2 : List Int))) (Enc.enc (s2_2 : List Int)) h1 rfl rfl ?_
        refine g_v1 (t := 5) (u := (.int .i64 t11_6)) (.int .i64 t11_6) h5 rfl rfl ?_
        obtain ⟨e_11, E_e_11, h⟩ := bind_some h
        refine g_v (.ref .sh 0 [] (.int .i64 e_11)) (ev_idx (t := .sh) (lo := 0) (xs := s2_2) rfl rfl E_e_11 rfl rfl) ?_
        refine g_v1 (t := 22) (u := (.ref .sh 0 [] (.int .i64 e_11))) (.int .i64 e_11) rfl rfl rfl ?_
        refine g_v1 (t := 23) (u := (.int .i64 e_11)) (.int .i64 e_11) rfl rfl rfl ?_
        refine g_end ?_
        refine e_end ?_
        refine renew [(0, (Enc.enc (s1_1 : List Int))), (1, (Enc.enc (s2_2 : List Int))), (4, (.int .i64 0)), (6, (.int .i64 e_10)), (7, (.int .i64 e_11)), (9, (Enc.enc (s1_1 : List Int))), (10, (.int .i64 (s1_1.length : Int))), (11, (.int .i64 t11_6))] ⟨h0, h1, h4, h6, rfl, h9, h10, h11⟩ ?_
        rintro s ⟨h0, h1, h4, h6, h7, h9, h10, h11⟩
        refine .nsq ?_
        refine .seq ?_
        refine run_reg ?_
        refine e_end ?_
        refine g_v1 (t := 6) (u := (.int .i64 e_10)) (.int .i64 e_10) h6 rfl rfl ?_
        refine g_v1 (t := 7) (u := (.int .i64 e_11)) (.int .i64 e_11) h7 rfl rfl ?_
        obtain ⟨r_12, E_r_12, h⟩ := bind_some h
        refine g_call (m := 0) (al := false) (r := (Enc.enc (r_12 : Int))) [Enc.enc (e_10 : Int), Enc.enc (e_11 : Int)] (ta_cons (v := (.int .i64 e_10)) rfl rfl rfl (ta_cons (v := (.int .i64 e_11)) rfl rfl rfl ta_nil)) (H.c114 _ _ _ E_r_12) H.g114 rfl rfl rfl rfl ?_
        refine g_v1 (t := 26) (u := (.int .i64 r_12)) (.int .i64 r_12) rfl rfl rfl ?_
        refine g_end ?_
        refine e_end ?_
        refine renew [(0, (Enc.enc (s1_1 : List Int))), (1, (Enc.enc (s2_2 : List Int))), (4, (.int .i64 0)), (8, (.int .i64 r_12)), (9, (Enc.enc (s1_1 : List Int))), (10, (.int .i64 (s1_1.length : Int))), (11, (.int .i64 t11_6))] ⟨h0, h1, h4, rfl, h9, h10, h11⟩ ?_
        rintro s ⟨h0, h1, h4, h8, h9, h10, h11⟩
        refine .nsq ?_
        refine .seq ?_
        refine run_reg ?_
        refine e_end ?_
        refine g_v1 (t := 8) (u := (.int .i64 r_12)) (.int .i64 r_12) h8 rfl rfl ?_
        refine g_v1 (t := 27) (u := (.int .i64 r_12)) (.bool (r_12 != 0)) rfl rfl rfl ?_
        refine g_end ?_
        refine e_end ?_
        refine renew [(0, (Enc.enc (s1_1 : List Int))), (1, (Enc.enc (s2_2 : List Int))), (4, (.int .i64 0)), (8, (.int .i64 r_12)), (9, (Enc.enc (s1_1 : List Int))), (10, (.int .i64 (s1_1.length : Int))), (11, (.int .i64 t11_6)), (28, (.bool (r_12 != 0)))] ⟨h0, h1, h4, h8, h9, h10, h11, rfl⟩ ?_
        rintro s ⟨h0, h1, h4, h8, h9, h10, h11, h28⟩
        refine .nsq ?_
        refine run_cond (t := (r_12 != 0)) h28 h (fun h => ?_) (fun h => ?_)
        · refine .seq ?_
          refine run_reg ?_
          refine e_end ?_
          refine g_v1 (t := 8) (u := (.int .i64 r_12)) (.int .i64 r_12) h8 rfl rfl ?_
          refine g_v1 (t := 29) (u := (.int .i64 r_12)) (.int .i64 r_12) rfl rfl rfl ?_
          refine g_end ?_
          refine e_end ?_
          refine renew [(0, (Enc.enc (s1_1 : List Int))), (1, (Enc.enc (s2_2 : List Int))), (4, (.int .i64 r_12)), (9, (Enc.enc (s1_1 : List Int))), (10, (.int .i64 (s1_1.length : Int))), (11, (.int .i64 t11_6))] ⟨h0, h1, rfl, h9, h10, h11⟩ ?_
          rintro s ⟨h0, h1, h4, h9, h10, h11⟩
          refine .nsq ?_
          refine .ret ?_
          have hr := Option.some.inj h
          subst hr
          exact rrA (res_tmp h4) rfl
        · refine .skip ?_
          refine .nbk ?_
          refine .nsq ?_
          refine run_reg ?_
          refine e_end ?_
          refine g_v1 (t := 11) (u := (.int .i64 t11_6)) (.int .i64 (w64 (t11_6 + 1))) h11 rfl rfl ?_
          refine g_v1 (t := 30) (u := (.int .i64 (w64 (t11_6 + 1)))) (.int .i64 (w64 (t11_6 + 1))) rfl rfl rfl ?_
          refine g_end ?_
          refine e_end ?_
          refine renew [(0, (Enc.enc (s1_1 : List Int))), (1, (Enc.enc (s2_2 : List Int))), (4, (.int .i64 0)), (9, (Enc.enc (s1_1 : List Int))), (10, (.int .i64 (s1_1.length : Int))), (11, (.int .i64 (w64 (t11_6 + 1))))] ⟨h0, h1, h4, h9, h10, rfl⟩ ?_
          rintro s ⟨h0, h1, h4, h9, h10, h11⟩
          refine .nlp ?_
          exact ih (w64 (t11_6 + 1)) _ ⟨h0, h1, h4, h9, h10, h11⟩ h
    · refine .exit ?_
      refine .esq ?_
      refine .elp ?_
      refine .ebk ?_
      refine .nsq ?_
      refine .seq ?_
      refine .seq ?_
      refine run_reg ?_
      refine e_end ?_
      refine g_v1 (t := 0) (u := (Enc.enc (s1_1 : List Int))) (Enc.enc (s1_1 : List Int)) h0 rfl rfl ?_
      refine g_v (.int .i64 (s1_1.length : Int)) (ev_len (xs := s1_1) rfl) ?_
      refine g_v1 (t := 1) (u := (Enc.enc (s2_2 : List Int))) (Enc.enc (s2_2 : List Int)) h1 rfl rfl ?_
      refine g_v (.int .i64 (s2_2.length : Int)) (ev_len (xs := s2_2) rfl) ?_
      refine g_v2 (t1 := 32) (t2 := 34) (u1 := (.int .i64 (s1_1.length : Int))) (u2 := (.int .i64 (s2_2.length : Int))) (.bool (decide ((s1_1.length : Int) < (s2_2.length : Int)))) rfl rfl rfl rfl ?_
      refine g_end ?_
      refine e_end ?_
      refine renew [(4, (.int .i64 0)), (35, (.bool (decide ((s1_1.length : Int) < (s2_2.length : Int)))))] ⟨h4, rfl⟩ ?_
      rintro s ⟨h4, h35⟩
      refine .nsq ?_
      refine run_cond (t := decide ((s1_1.length : Int) < (s2_2.length : Int))) h35 h (fun h => ?_) (fun h => ?_)
      · refine .seq ?_
        refine run_reg ?_
        refine e_end ?_
        refine g_v0 (.int .i64 (-1)) rfl rfl ?_
        refine g_end ?_
        refine e_end ?_
        refine renew [(4, (.int .i64 (-1)))] rfl ?_
        rintro s h4
        refine .nsq ?_
        refine .ret ?_
        have hr := Option.some.inj h
        subst hr
        exact rrA (res_tmp h4) rfl
      · refine .skip ?_
        refine .nsq ?_
        refine .seq ?_
        refine run_reg ?_
        refine e_end ?_
        refine g_v0 (.int .i64 0) rfl rfl ?_
        refine g_end ?_
        refine e_end ?_
        refine renew [(4, (.int .i64 0))] rfl ?_
        rintro s h4
        refine .nsq ?_
        refine .ret ?_
        have hr := Option.some.inj h
        subst hr
        exact rrA (res_tmp h4) rfl
def slices_Compare (F : Nat) (s1_1 : (List Int)) (s2_2 : (List Int)) : Option Int :=
  slices_Compare_l1 F s1_1 s2_2 F 0
theorem t81 (H : H81 D σ F) (s1_1 : (List Int)) (s2_2 : (List Int)) (s : Nat → V) (hs : Facts [(0, (Enc.enc (s1_1 : List Int))), (1, (Enc.enc (s2_2 : List Int)))] s) (h : slices_Compare F s1_1 s2_2 = some r) : Run D σ (R81 r) (.run A81 []) s := by
  unfold slices_Compare at h
  obtain ⟨h0, h1⟩ := hs
  refine .seq ?_
  refine run_reg ?_
  refine e_end ?_
  refine g_v0 (.int .i64 0) rfl rfl ?_
  refine g_end ?_
  refine e_end ?_
  refine renew [(0, (Enc.enc (s1_1 : List Int))), (1, (Enc.enc (s2_2 : List Int))), (4, (.int .i64 0))] ⟨h0, h1, rfl⟩ ?_
  rintro s ⟨h0, h1, h4⟩
  refine .nsq ?_
  refine .seq ?_
  refine .seq ?_
  refine run_reg ?_
  refine e_end ?_
  refine g_v1 (t := 0) (u := (Enc.enc (s1_1 : List Int))) (Enc.enc (s1_1 : List Int)) h0 rfl rfl ?_
  refine g_v (.int .i64 (s1_1.length : Int)) (ev_len (xs := s1_1) rfl) ?_
  refine g_v0 (.int .i64 0) rfl rfl ?_
  refine g_end ?_
  refine e_end ?_
  refine renew [(0, (Enc.enc (s1_1 : List Int))), (1, (Enc.enc (s2_2 : List Int))), (4, (.int .i64 0)), (9, (Enc.enc (s1_1 : List Int))), (10, (.int .i64 (s1_1.length : Int))), (11, (.int .i64 0))] ⟨h0, h1, h4, rfl, rfl, rfl⟩ ?_
  rintro s ⟨h0, h1, h4, h9, h10, h11⟩
  refine .nsq ?_
  refine .block ?_
  refine .loop ?_
  exact t_f81_l1 H s1_1 s2_2 F 0 _ ⟨h0, h1, h4, h9, h10, h11⟩ h
end
def e81 (F : Nat) : Ent := ⟨81, da (fun (x : ((List Int) × (List Int) × Unit)) => slices_Compare F x.1 x.2.1) (fun (r : Int) => (Enc.enc (r : Int))), 0, false, selF []⟩
theorem p81 {F : Nat} {x0 : (List Int)} {x1 : (List Int)} {r : Int} (h : slices_Compare F x0 x1 = some r) : (e81 F).den [Enc.enc x0, Enc.enc x1] = some (Enc.enc (r : Int)) := da_put (f := fun (x : ((List Int) × (List Int) × Unit)) => slices_Compare F x.1 x.2.1) (t := fun (r : Int) => (Enc.enc (r : Int))) (x0, x1, ()) h
theorem o81 {D : Den} {σ : Sig} {F : Nat} (hF : Fits2 Try.prog D σ) (H : H81 D σ F) : (e81 F).Ok Try.prog := by
  refine ⟨fun args r h => ?_, ⟨Try.f81, Try.func81, rfl, rfl⟩⟩
  obtain ⟨⟨x0, x1, _⟩, y, rfl, hy, rfl⟩ := da_open h
  exact contract_run hF (by kernel_rfl) Try.func81 rfl c81 (show 2 ≤ Try.f81.ntmps by decide) (t81 H x0 x1 _ ⟨rfl, rfl⟩ hy)
end Go.Zq
