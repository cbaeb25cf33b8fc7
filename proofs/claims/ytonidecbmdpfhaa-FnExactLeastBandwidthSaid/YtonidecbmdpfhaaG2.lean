/- Functions of the program as typed functions, and that the machine runs as they say (part 2). No further condition. -/
import Derived.Test.YtonidecbmdpfhaaK3
import Derived.Test.YtonidecbmdpfhaaKC
import Derived.Test.YtonidecbmdpfhaaProg
import Derived.Test.YtonidecbmdpfhaaChecked
import Derived.KernelRfl
import Derived.Test.YtonidecbmdpfhaaG1
set_option linter.unusedVariables false
set_option linter.unusedSimpArgs false
/- Functions of the program, as typed functions, and that the machine runs as they say. -/
namespace Go.Zq
open Go.Proofs Go.Shelf
/- loop.example/g01109/spec.LeastBandwidth -/
def A35_2 : AC := (AC.cond (O.t 15) AC.skip (AC.exit 0))
def A35_5 : AC := (AC.cond (O.t 25) (AC.seq (AC.reg [] [(I.mk (some 26) none false (X.v (A.mov (O.t 6)))), (I.mk (some 27) none false (X.v (A.mov (O.t 5)))), (I.mk (some 2) none false (X.v (A.mov (O.t 26)))), (I.mk (some 3) none false (X.v (A.mov (O.t 27)))), (I.mk (some 4) none false (X.v (A.mov (O.k (V.bool true)))))] []) AC.ret) AC.skip)
def A35_4 : AC := (AC.seq (AC.reg [] [(I.mk (some 25) none false (X.v (A.mov (O.t 7))))] []) A35_5)
def A35_6 : AC := (AC.reg [] [(I.mk (some 16) none false (X.v (A.mov (O.t 5)))), (I.mk (some 17) none false (X.v (A.bin BinOp.add (O.t 16) (O.k (V.int IntKind.i64 (Int.ofNat 1)))))), (I.mk (some 5) none false (X.v (A.mov (O.t 17))))] [])
def A35_3 : AC := (AC.seq (AC.block 1 (AC.seq (AC.reg [.clr [20]] [(I.mk (some 19) none false (X.v (A.load (Sh.ag [Sh.s, Sh.p]) (O.t 1)))), (I.mk (some 20) none true (X.lit (V.int IntKind.i64 (Int.ofNat 0)) 0 [])), (I.mk (some 21) none false (X.v (A.mov (O.t 5)))), (I.mk (some 22) none false (X.call (O.k (V.fn 79 [] [])) [(O.t 19), (O.t 20), (O.t 21)])), (I.mk (some 18) none false (X.v (A.mov (O.t 22)))), (I.mk (some 23) none false (X.v (A.ext (O.t 18) 0))), (I.mk (some 24) none false (X.v (A.extS (O.t 18) 1))), (I.mk (some 6) none false (X.v (A.mov (O.t 23)))), (I.mk (some 7) none false (X.v (A.mov (O.t 24))))] []) A35_4)) A35_6)
def A35_1 : AC := (AC.seq (AC.seq (AC.reg [] [(I.mk (some 12) none false (X.v (A.mov (O.t 5)))), (I.mk (some 13) none false (X.v (A.fld (O.t 1) 0 0))), (I.mk (some 14) none false (X.v (A.load Sh.s (O.t 13)))), (I.mk (some 15) none false (X.v (A.bin BinOp.lss (O.t 12) (O.t 14))))] []) A35_2) A35_3)
def A35_7 : AC := (AC.seq (AC.reg [.clr [28]] [(I.mk (some 28) none false (X.lit (V.int IntKind.i64 (Int.ofNat 0)) 0 [])), (I.mk (some 2) none false (X.v (A.mov (O.t 28)))), (I.mk (some 3) none false (X.v (A.mov (O.k (V.int IntKind.i64 (Int.ofNat 0)))))), (I.mk (some 4) none false (X.v (A.mov (O.k (V.bool true)))))] [.home 28 2]) AC.ret)
def A35_9 : AC := (AC.cond (O.t 10) (AC.seq (AC.reg [.clr [11]] [(I.mk (some 11) none false (X.lit (V.int IntKind.i64 (Int.ofNat 0)) 0 [])), (I.mk (some 2) none false (X.v (A.mov (O.t 11)))), (I.mk (some 3) none false (X.v (A.mov (O.k (V.int IntKind.i64 (Int.ofNat 0)))))), (I.mk (some 4) none false (X.v (A.mov (O.k (V.bool false)))))] [.home 11 2]) AC.ret) AC.skip)
def A35_11 : AC := (AC.block 0 (AC.loop A35_1))
def A35_10 : AC := (AC.seq (AC.seq (AC.reg [] [(I.mk (some 5) none false (X.v (A.mov (O.k (V.int IntKind.i64 (Int.ofNat 0))))))] []) A35_11) A35_7)
def A35_8 : AC := (AC.seq (AC.seq (AC.reg [] [(I.mk (some 8) none false (X.v (A.load (Sh.ag [Sh.s, Sh.p]) (O.t 1)))), (I.mk (some 9) none false (X.call (O.k (V.fn 48 [] [])) [(O.t 8)])), (I.mk (some 10) none false (X.v (A.un UnOp.not (O.t 9))))] []) A35_9) A35_10)
def A35 : AC := (AC.seq (AC.reg [.clr [1]] [(I.mk (some 1) none false (X.box (O.t 0))), (I.mk (some 2) none false (X.v (A.mov (O.k (V.sl Tok.nl Sh.s 0 []))))), (I.mk (some 3) none false (X.v (A.mov (O.k (V.int IntKind.i64 (Int.ofNat 0)))))), (I.mk (some 4) none false (X.v (A.mov (O.k (V.bool false)))))] []) A35_8)
def an35 : List An := [{ id := 0, pre := [.clr [1]], ep := [], lin := [], sp := [] }, { id := 2, pre := [.clr [11]], ep := [.home 11 2], lin := [], sp := [] }, { id := 6, pre := [.clr [20]], ep := [], lin := [1], sp := [] }, { id := 9, pre := [.clr [28]], ep := [.home 28 2], lin := [], sp := [] }]
theorem c35 : cC Try.prog Try.f35.ntmps an35 (Try.f35.body.getD .skip) = some A35 := by kernel_rfl
structure H35 (D : Den) (σ : Sig) (F : Nat) : Prop where
  c48 : ∀ (x0 : (Int × (List (Int × Int)))) r, s_l2Good F x0 = some r → D 48 [Enc.enc x0] = some (Enc.enc (r : Bool))
  g48 : σ 48 = some (0, false)
  c79 : ∀ (x0 : (Int × (List (Int × Int)))) (x1 : (List Int)) (x2 : Int) r, s_l7Layout F x0 x1 x2 = some r → D 79 [Enc.enc x0, Enc.enc x1, Enc.enc x2] = some (.tup [Enc.enc (r.1 : (List Int)), Enc.enc (r.2 : Bool)])
  g79 : σ 79 = some (0, true)
abbrev R35 (r : (S3 (List Int) Int Bool)) : (Nat → V) → Prop := RR Try.prog [.tmp 2, .tmp 3, .tmp 4] 0 true (.tup [Enc.enc (r.a : (List Int)), Enc.enc (r.b : Int), Enc.enc (r.c : Bool)])
section
variable {D : Den} {σ : Sig} {F : Nat} {r : (S3 (List Int) Int Bool)}
def s_LeastBandwidth_l1 (F : Nat) (g_1 : (Int × (List (Int × Int))))  : Nat → Int → Option (S3 (List Int) Int Bool)
  | 0, _ => none
  | k + 1, width_4 =>
    bif decide (width_4 < g_1.1) then
      (s_l7Layout F g_1 [] width_4).bind fun r_6 =>
      bif r_6.2 then
        some (S3.mk r_6.1 width_4 true)
      else
        (s_LeastBandwidth_l1 F g_1 k) (w64 (width_4 + 1))
    else
      some (S3.mk [] 0 true)
theorem t_f35_l1 (H : H35 D σ F) (g_1 : (Int × (List (Int × Int))))  : ∀ (k : Nat) (width_4 : Int) (s : Nat → V), Facts [(1, (.ref (.bx 1) 0 [] (.agg [(.int .i64 g_1.1), (Enc.enc (g_1.2 : List (Int × Int)))]))), (2, (.sl .nl (Enc.shp Int) 0 [])), (3, (.int .i64 0)), (4, (.bool false)), (5, (.int .i64 width_4))] s → s_LeastBandwidth_l1 F g_1 k width_4 = some r → Run D σ (R35 r) (.run A35_1 [.lp A35_1, .bk 0, .sq A35_7]) s := by
  intro k
  induction k with
  | zero => intro width_4 s _ h; exact nomatch (h : (none : Option _) = some r)
  | succ k ih =>
    intro width_4 s hs h
    rw [s_LeastBandwidth_l1] at h
    obtain ⟨h1, h2, h3, h4, h5⟩ := hs
    refine .seq ?_
    refine .seq ?_
    refine run_reg ?_
    refine e_end ?_
    refine g_v1 (t := 5) (u := (.int .i64 width_4)) (.int .i64 width_4) h5 rfl rfl ?_
    refine g_v1 (t := 1) (u := (.ref (.bx 1) 0 [] (.agg [(.int .i64 g_1.1), (Enc.enc (g_1.2 : List (Int × Int)))]))) (.ref (.bx 1) 0 [0] (.int .i64 g_1.1)) h1 rfl rfl ?_
    refine g_v1 (t := 13) (u := (.ref (.bx 1) 0 [0] (.int .i64 g_1.1))) (.int .i64 g_1.1) rfl rfl rfl ?_
    refine g_v2 (t1 := 12) (t2 := 14) (u1 := (.int .i64 width_4)) (u2 := (.int .i64 g_1.1)) (.bool (decide (width_4 < g_1.1))) rfl rfl rfl rfl ?_
    refine g_end ?_
    refine e_end ?_
    refine renew [(1, (.ref (.bx 1) 0 [] (.agg [(.int .i64 g_1.1), (Enc.enc (g_1.2 : List (Int × Int)))]))), (2, (.sl .nl (Enc.shp Int) 0 [])), (3, (.int .i64 0)), (4, (.bool false)), (5, (.int .i64 width_4)), (15, (.bool (decide (width_4 < g_1.1))))] ⟨h1, h2, h3, h4, h5, rfl⟩ ?_
    rintro s ⟨h1, h2, h3, h4, h5, h15⟩
    refine .nsq ?_
    refine run_cond (t := decide (width_4 < g_1.1)) h15 h (fun h => ?_) (fun h => ?_)
    · refine .skip ?_
      refine .nsq ?_
      refine .seq ?_
      refine .block ?_
      refine .seq ?_
      refine run_reg ?_
      refine e_clr ?_
      refine e_end ?_
      refine g_v1 (t := 1) (u := (.ref (.bx 1) 0 [] (.agg [(.int .i64 g_1.1), (Enc.enc (g_1.2 : List (Int × Int)))]))) (.agg [(.int .i64 g_1.1), (Enc.enc (g_1.2 : List (Int × Int)))]) (keep_clear (s := s) (pk := [20]) h1 rfl (map_bx rfl (map_agg (maps_cons rfl (maps_cons (Enc.map_enc _ (g_1.2 : List (Int × Int))) maps_nil))))) rfl rfl ?_
      refine g_litLl [] [] trivial rfl rfl (gone_clear (s := s) (pk := [20]) (t := 20) rfl) ?_
      refine g_v1 (t := 5) (u := (.int .i64 width_4)) (.int .i64 width_4) (keep_clear (s := s) (pk := [20]) h5 rfl rfl) rfl rfl ?_
      obtain ⟨r_6, E_r_6, h⟩ := bind_some h
      refine g_callS (rl := 20) (m := 0) (al := true) (r := (.tup [Enc.enc (r_6.1 : (List Int)), Enc.enc (r_6.2 : Bool)])) [Enc.enc (g_1 : (Int × (List (Int × Int)))), Enc.enc ([] : (List Int)), Enc.enc (width_4 : Int)] (by exact (ta_cons (v := (.agg [(.int .i64 g_1.1), (Enc.enc (g_1.2 : List (Int × Int)))])) rfl rfl (Enc.erase_enc (g_1 : (Int × (List (Int × Int))))) (ta_lin (r := 20) (v := (encO (.at 20 []) (.of ([] : List Int)))) rfl (erase_encO (o := .of [])) (ta_cons (v := (.int .i64 width_4)) rfl rfl rfl ta_nil)))) (H.c79 _ _ _ _ E_r_6) H.g79 (by exact (hal_of (ht_cons (v := (.agg [(.int .i64 g_1.1), (Enc.enc (g_1.2 : List (Int × Int)))])) rfl rfl rfl (ht_lin (r := 20) (o := (.of [] : NL Int)) rfl (ht_cons (v := (.int .i64 width_4)) rfl rfl rfl ht_nil))))) rfl rfl rfl ?_
      refine g_v1 (t := 22) (u := (.tup [(Enc.enc (r_6.1 : List Int)), (.bool r_6.2)])) (.tup [(Enc.enc (r_6.1 : List Int)), (.bool r_6.2)]) rfl rfl rfl ?_
      refine g_v1 (t := 18) (u := (.tup [(Enc.enc (r_6.1 : List Int)), (.bool r_6.2)])) (Enc.enc (r_6.1 : List Int)) rfl rfl rfl ?_
      refine g_v1 (t := 18) (u := (.tup [(Enc.enc (r_6.1 : List Int)), (.bool r_6.2)])) (.bool r_6.2) rfl rfl rfl ?_
      refine g_v1 (t := 23) (u := (Enc.enc (r_6.1 : List Int))) (Enc.enc (r_6.1 : List Int)) rfl rfl rfl ?_
      refine g_v1 (t := 24) (u := (.bool r_6.2)) (.bool r_6.2) rfl rfl rfl ?_
      refine g_end ?_
      refine e_end ?_
      refine renew [(1, (.ref (.bx 1) 0 [] (.agg [(.int .i64 g_1.1), (Enc.enc (g_1.2 : List (Int × Int)))]))), (2, (.sl .nl (Enc.shp Int) 0 [])), (3, (.int .i64 0)), (4, (.bool false)), (5, (.int .i64 width_4)), (6, (Enc.enc (r_6.1 : List Int))), (7, (.bool r_6.2))] ⟨(keep_clear (s := s) (pk := [20]) h1 rfl (map_bx rfl (map_agg (maps_cons rfl (maps_cons (Enc.map_enc _ (g_1.2 : List (Int × Int))) maps_nil))))), (keep_clear (s := s) (pk := [20]) h2 rfl rfl), (keep_clear (s := s) (pk := [20]) h3 rfl rfl), (keep_clear (s := s) (pk := [20]) h4 rfl rfl), (keep_clear (s := s) (pk := [20]) h5 rfl rfl), rfl, rfl⟩ ?_
      rintro s ⟨h1, h2, h3, h4, h5, h6, h7⟩
      refine .nsq ?_
      refine .seq ?_
      refine run_reg ?_
      refine e_end ?_
      refine g_v1 (t := 7) (u := (.bool r_6.2)) (.bool r_6.2) h7 rfl rfl ?_
      refine g_end ?_
      refine e_end ?_
      refine renew [(1, (.ref (.bx 1) 0 [] (.agg [(.int .i64 g_1.1), (Enc.enc (g_1.2 : List (Int × Int)))]))), (2, (.sl .nl (Enc.shp Int) 0 [])), (3, (.int .i64 0)), (4, (.bool false)), (5, (.int .i64 width_4)), (6, (Enc.enc (r_6.1 : List Int))), (25, (.bool r_6.2))] ⟨h1, h2, h3, h4, h5, h6, rfl⟩ ?_
      rintro s ⟨h1, h2, h3, h4, h5, h6, h25⟩
      refine .nsq ?_
      refine run_cond (t := r_6.2) h25 h (fun h => ?_) (fun h => ?_)
      · refine .seq ?_
        refine run_reg ?_
        refine e_end ?_
        refine g_v1 (t := 6) (u := (Enc.enc (r_6.1 : List Int))) (Enc.enc (r_6.1 : List Int)) h6 rfl rfl ?_
        refine g_v1 (t := 5) (u := (.int .i64 width_4)) (.int .i64 width_4) h5 rfl rfl ?_
        refine g_v1 (t := 26) (u := (Enc.enc (r_6.1 : List Int))) (Enc.enc (r_6.1 : List Int)) rfl rfl rfl ?_
        refine g_v1 (t := 27) (u := (.int .i64 width_4)) (.int .i64 width_4) rfl rfl rfl ?_
        refine g_v0 (.bool true) rfl rfl ?_
        refine g_end ?_
        refine e_end ?_
        refine renew [(1, (.ref (.bx 1) 0 [] (.agg [(.int .i64 g_1.1), (Enc.enc (g_1.2 : List (Int × Int)))]))), (2, (Enc.enc (r_6.1 : List Int))), (3, (.int .i64 width_4)), (4, (.bool true)), (5, (.int .i64 width_4))] ⟨h1, rfl, rfl, rfl, h5⟩ ?_
        rintro s ⟨h1, h2, h3, h4, h5⟩
        refine .nsq ?_
        refine .ret ?_
        have hr := Option.some.inj h
        subst hr
        exact rrC (res_tmp h2) (res_tmp h3) (res_tmp h4) (fin_ret1 (fin_tup (fins_cons (fin_enc (x := (r_6.1 : (List Int)))) (fins_cons (fin_enc (x := (width_4 : Int))) (fins_cons (fin_enc (x := (true : Bool))) fins_nil)))))
      · refine .skip ?_
        refine .nbk ?_
        refine .nsq ?_
        refine run_reg ?_
        refine e_end ?_
        refine g_v1 (t := 5) (u := (.int .i64 width_4)) (.int .i64 width_4) h5 rfl rfl ?_
        refine g_v1 (t := 16) (u := (.int .i64 width_4)) (.int .i64 (w64 (width_4 + 1))) rfl rfl rfl ?_
        refine g_v1 (t := 17) (u := (.int .i64 (w64 (width_4 + 1)))) (.int .i64 (w64 (width_4 + 1))) rfl rfl rfl ?_
        refine g_end ?_
        refine e_end ?_
        refine renew [(1, (.ref (.bx 1) 0 [] (.agg [(.int .i64 g_1.1), (Enc.enc (g_1.2 : List (Int × Int)))]))), (2, (.sl .nl (Enc.shp Int) 0 [])), (3, (.int .i64 0)), (4, (.bool false)), (5, (.int .i64 (w64 (width_4 + 1))))] ⟨h1, h2, h3, h4, rfl⟩ ?_
        rintro s ⟨h1, h2, h3, h4, h5⟩
        refine .nlp ?_
        exact ih (w64 (width_4 + 1)) _ ⟨h1, h2, h3, h4, h5⟩ h
    · refine .exit ?_
      refine .esq ?_
      refine .elp ?_
      refine .ebk ?_
      refine .nsq ?_
      refine .seq ?_
      refine run_reg ?_
      refine e_clr ?_
      refine e_end ?_
      refine g_litL [] [] trivial rfl rfl (gone_clear (s := s) (pk := [28]) (t := 28) rfl) ?_
      refine g_v1 (t := 28) (u := (encO (.at 28 []) (.of ([] : List Int)))) (encO (.at 28 []) (.of ([] : List Int))) rfl rfl rfl ?_
      refine g_v0 (.int .i64 0) rfl rfl ?_
      refine g_v0 (.bool true) rfl rfl ?_
      refine g_end ?_
      refine e_home (r := 28) (x := 2) (v := (encO (.at 28 []) (.of ([] : List Int)))) (by exact rfl) rfl (fun s_10 hg_10 => ?_)
      refine e_end ?_
      refine renew [(2, (encO (.at 2 []) (.of ([] : List Int)))), (3, (.int .i64 0)), (4, (.bool true))] ⟨(hg_10 2 (encO (.at 28 []) (.of ([] : List Int))) (encO (.at 2 []) (.of ([] : List Int))) rfl (map_encO (r := 28) (p := []) rfl rfl)), (hg_10 3 (.int .i64 0) (.int .i64 0) rfl rfl), (hg_10 4 (.bool true) (.bool true) rfl rfl)⟩ ?_
      rintro s ⟨h2, h3, h4⟩
      refine .nsq ?_
      refine .ret ?_
      have hr := Option.some.inj h
      subst hr
      exact rrC (res_tmp h2) (res_tmp h3) (res_tmp h4) (fin_ret1 (fin_tup (fins_cons (fin_own (o := .of [])) (fins_cons (fin_enc (x := (0 : Int))) (fins_cons (fin_enc (x := (true : Bool))) fins_nil)))))
def s_LeastBandwidth (F : Nat) (g_1 : (Int × (List (Int × Int)))) : Option (S3 (List Int) Int Bool) :=
  (s_l2Good F g_1).bind fun r_2 =>
  bif (!r_2) then
    some (S3.mk [] 0 false)
  else
    s_LeastBandwidth_l1 F g_1 F 0
theorem t35 (H : H35 D σ F) (g_1 : (Int × (List (Int × Int)))) (s : Nat → V) (hs : Facts [(0, (.agg [(.int .i64 g_1.1), (Enc.enc (g_1.2 : List (Int × Int)))]))] s) (h : s_LeastBandwidth F g_1 = some r) : Run D σ (R35 r) (.run A35 []) s := by
  unfold s_LeastBandwidth at h
  have h0 := hs
  refine .seq ?_
  refine run_reg ?_
  refine e_clr ?_
  refine e_end ?_
  refine g_box (.agg [(.int .i64 g_1.1), (Enc.enc (g_1.2 : List (Int × Int)))]) (rd_of (keep_clear (s := s) (pk := [1]) h0 rfl (map_agg (maps_cons rfl (maps_cons (Enc.map_enc _ (g_1.2 : List (Int × Int))) maps_nil)))) rfl) (gone_clear (s := s) (pk := [1]) (t := 1) rfl) rfl ?_
  refine g_v0 (.sl .nl (Enc.shp Int) 0 []) rfl rfl ?_
  refine g_v0 (.int .i64 0) rfl rfl ?_
  refine g_v0 (.bool false) rfl rfl ?_
  refine g_end ?_
  refine e_end ?_
  refine renew [(1, (.ref (.bx 1) 0 [] (.agg [(.int .i64 g_1.1), (Enc.enc (g_1.2 : List (Int × Int)))]))), (2, (.sl .nl (Enc.shp Int) 0 [])), (3, (.int .i64 0)), (4, (.bool false))] ⟨rfl, rfl, rfl, rfl⟩ ?_
  rintro s ⟨h1, h2, h3, h4⟩
  refine .nsq ?_
  refine .seq ?_
  refine .seq ?_
  refine run_reg ?_
  refine e_end ?_
  refine g_v1 (t := 1) (u := (.ref (.bx 1) 0 [] (.agg [(.int .i64 g_1.1), (Enc.enc (g_1.2 : List (Int × Int)))]))) (.agg [(.int .i64 g_1.1), (Enc.enc (g_1.2 : List (Int × Int)))]) h1 rfl rfl ?_
  obtain ⟨r_2, E_r_2, h⟩ := bind_some h
  refine g_call (m := 0) (al := false) (r := (Enc.enc (r_2 : Bool))) [Enc.enc (g_1 : (Int × (List (Int × Int))))] (ta_cons (v := (.agg [(.int .i64 g_1.1), (Enc.enc (g_1.2 : List (Int × Int)))])) rfl rfl (Enc.erase_enc (g_1 : (Int × (List (Int × Int))))) ta_nil) (H.c48 _ _ E_r_2) H.g48 rfl rfl rfl rfl ?_
  refine g_v1 (t := 9) (u := (.bool r_2)) (.bool (!r_2)) rfl rfl rfl ?_
  refine g_end ?_
  refine e_end ?_
  refine renew [(1, (.ref (.bx 1) 0 [] (.agg [(.int .i64 g_1.1), (Enc.enc (g_1.2 : List (Int × Int)))]))), (2, (.sl .nl (Enc.shp Int) 0 [])), (3, (.int .i64 0)), (4, (.bool false)), (10, (.bool (!r_2)))] ⟨h1, h2, h3, h4, rfl⟩ ?_
  rintro s ⟨h1, h2, h3, h4, h10⟩
  refine .nsq ?_
  refine run_cond (t := (!r_2)) h10 h (fun h => ?_) (fun h => ?_)
  · refine .seq ?_
    refine run_reg ?_
    refine e_clr ?_
    refine e_end ?_
    refine g_litL [] [] trivial rfl rfl (gone_clear (s := s) (pk := [11]) (t := 11) rfl) ?_
    refine g_v1 (t := 11) (u := (encO (.at 11 []) (.of ([] : List Int)))) (encO (.at 11 []) (.of ([] : List Int))) rfl rfl rfl ?_
    refine g_v0 (.int .i64 0) rfl rfl ?_
    refine g_v0 (.bool false) rfl rfl ?_
    refine g_end ?_
    refine e_home (r := 11) (x := 2) (v := (encO (.at 11 []) (.of ([] : List Int)))) (by exact rfl) rfl (fun s_5 hg_5 => ?_)
    refine e_end ?_
    refine renew [(1, (.ref (.bx 1) 0 [] (.agg [(.int .i64 g_1.1), (Enc.enc (g_1.2 : List (Int × Int)))]))), (2, (encO (.at 2 []) (.of ([] : List Int)))), (3, (.int .i64 0)), (4, (.bool false))] ⟨(hg_5 1 (.ref (.bx 1) 0 [] (.agg [(.int .i64 g_1.1), (Enc.enc (g_1.2 : List (Int × Int)))])) (.ref (.bx 1) 0 [] (.agg [(.int .i64 g_1.1), (Enc.enc (g_1.2 : List (Int × Int)))])) (keep_clear (s := s) (pk := [11]) h1 rfl (map_bx rfl (map_agg (maps_cons rfl (maps_cons (Enc.map_enc _ (g_1.2 : List (Int × Int))) maps_nil))))) (map_bx rfl (map_agg (maps_cons rfl (maps_cons (Enc.map_enc _ (g_1.2 : List (Int × Int))) maps_nil))))), (hg_5 2 (encO (.at 11 []) (.of ([] : List Int))) (encO (.at 2 []) (.of ([] : List Int))) rfl (map_encO (r := 11) (p := []) rfl rfl)), (hg_5 3 (.int .i64 0) (.int .i64 0) rfl rfl), (hg_5 4 (.bool false) (.bool false) rfl rfl)⟩ ?_
    rintro s ⟨h1, h2, h3, h4⟩
    refine .nsq ?_
    refine .ret ?_
    have hr := Option.some.inj h
    subst hr
    exact rrC (res_tmp h2) (res_tmp h3) (res_tmp h4) (fin_ret1 (fin_tup (fins_cons (fin_own (o := .of [])) (fins_cons (fin_enc (x := (0 : Int))) (fins_cons (fin_enc (x := (false : Bool))) fins_nil)))))
  · refine .skip ?_
    refine .nsq ?_
    refine .seq ?_
    refine .seq ?_
    refine run_reg ?_
    refine e_end ?_
    refine g_v0 (.int .i64 0) rfl rfl ?_
    refine g_end ?_
    refine e_end ?_
    refine renew [(1, (.ref (.bx 1) 0 [] (.agg [(.int .i64 g_1.1), (Enc.enc (g_1.2 : List (Int × Int)))]))), (2, (.sl .nl (Enc.shp Int) 0 [])), (3, (.int .i64 0)), (4, (.bool false)), (5, (.int .i64 0))] ⟨h1, h2, h3, h4, rfl⟩ ?_
    rintro s ⟨h1, h2, h3, h4, h5⟩
    refine .nsq ?_
    refine .block ?_
    refine .loop ?_
    exact t_f35_l1 H g_1 F 0 _ ⟨h1, h2, h3, h4, h5⟩ h
end
def e35 (F : Nat) : Ent := ⟨35, da (fun (x : ((Int × (List (Int × Int))) × Unit)) => s_LeastBandwidth F x.1) (fun (r : (S3 (List Int) Int Bool)) => (.tup [Enc.enc (r.a : (List Int)), Enc.enc (r.b : Int), Enc.enc (r.c : Bool)])), 0, true, selF []⟩
theorem p35 {F : Nat} {x0 : (Int × (List (Int × Int)))} {r : (S3 (List Int) Int Bool)} (h : s_LeastBandwidth F x0 = some r) : (e35 F).den [Enc.enc x0] = some (.tup [Enc.enc (r.a : (List Int)), Enc.enc (r.b : Int), Enc.enc (r.c : Bool)]) := da_put (f := fun (x : ((Int × (List (Int × Int))) × Unit)) => s_LeastBandwidth F x.1) (t := fun (r : (S3 (List Int) Int Bool)) => (.tup [Enc.enc (r.a : (List Int)), Enc.enc (r.b : Int), Enc.enc (r.c : Bool)])) (x0, ()) h
theorem o35 {D : Den} {σ : Sig} {F : Nat} (hF : Fits2 Try.prog D σ) (H : H35 D σ F) : (e35 F).Ok Try.prog := by
  refine ok_of (f := 35) (show unk 35 = 35 from rfl) (fun args r h => ?_) ⟨Try.f35, Try.func35, rfl, rfl⟩
  obtain ⟨⟨x0, _⟩, y, rfl, hy, rfl⟩ := da_open h
  exact contract_run hF (by kernel_rfl) Try.func35 rfl c35 (show 1 ≤ Try.f35.ntmps by decide) (t35 H x0 _ rfl hy)
/- loop.example/g01109/impl.within -/
def A100_1 : AC := (AC.seq (AC.reg [] [(I.mk (some 7) none false (X.v (A.mov (O.t 0)))), (I.mk (some 8) none false (X.v (A.mov (O.t 1)))), (I.mk (some 9) none false (X.v (A.bin BinOp.geq (O.t 7) (O.t 8)))), (I.mk (some 10) none false (X.v (A.mov (O.t 9)))), (I.mk (some 11) (some (10, true)) false (X.v (A.mov (O.t 0)))), (I.mk (some 12) (some (10, true)) false (X.v (A.mov (O.t 2)))), (I.mk (some 13) (some (10, true)) false (X.v (A.bin BinOp.leq (O.t 11) (O.t 12)))), (I.mk (some 14) none false (X.v (A.pick (O.t 10) (O.t 13) (O.k (V.bool false))))), (I.mk (some 6) none false (X.v (A.mov (O.t 14))))] []) AC.ret)
def A100 : AC := (AC.seq (AC.reg [] [(I.mk (some 6) none false (X.v (A.mov (O.k (V.bool false)))))] []) A100_1)
def an100 : List An := []
theorem c100 : cC Try.prog Try.f100.ntmps an100 (Try.f100.body.getD .skip) = some A100 := by kernel_rfl
structure H100 (D : Den) (σ : Sig) (F : Nat) : Prop where
  mk ::
abbrev R100 (r : Bool) : (Nat → V) → Prop := RR Try.prog [.tmp 6] 0 false (Enc.enc (r : Bool))
section
variable {D : Den} {σ : Sig} {F : Nat} {r : Bool}
def i_within (F : Nat) (n_1 : Int) (low_2 : Int) (high_3 : Int) : Option Bool :=
  bif decide (n_1 ≥ low_2) then
    some (decide (n_1 ≤ high_3))
  else
    some false
theorem t100 (H : H100 D σ F) (n_1 : Int) (low_2 : Int) (high_3 : Int) (s : Nat → V) (hs : Facts [(0, (.int .i64 n_1)), (1, (.int .i64 low_2)), (2, (.int .i64 high_3))] s) (h : i_within F n_1 low_2 high_3 = some r) : Run D σ (R100 r) (.run A100 []) s := by
  unfold i_within at h
  obtain ⟨h0, h1, h2⟩ := hs
  refine .seq ?_
  refine run_reg ?_
  refine e_end ?_
  refine g_v0 (.bool false) rfl rfl ?_
  refine g_end ?_
  refine e_end ?_
  refine renew [(0, (.int .i64 n_1)), (1, (.int .i64 low_2)), (2, (.int .i64 high_3)), (6, (.bool false))] ⟨h0, h1, h2, rfl⟩ ?_
  rintro s ⟨h0, h1, h2, h6⟩
  refine .nsq ?_
  refine .seq ?_
  refine run_reg ?_
  refine e_end ?_
  refine g_v1 (t := 0) (u := (.int .i64 n_1)) (.int .i64 n_1) h0 rfl rfl ?_
  refine g_v1 (t := 1) (u := (.int .i64 low_2)) (.int .i64 low_2) h1 rfl rfl ?_
  refine g_v2 (t1 := 7) (t2 := 8) (u1 := (.int .i64 n_1)) (u2 := (.int .i64 low_2)) (.bool (decide (n_1 ≥ low_2))) rfl rfl rfl rfl ?_
  refine g_v1 (t := 9) (u := (.bool (decide (n_1 ≥ low_2)))) (.bool (decide (n_1 ≥ low_2))) rfl rfl rfl ?_
  refine split_on (c := decide (n_1 ≥ low_2)) h (fun hg4 h => ?_) (fun hg4 h => ?_)
  · refine g_yes (Eq.trans (b := .bool (decide (n_1 ≥ low_2))) rfl (congrArg V.bool hg4)) (g_v1 (t := 0) (u := (.int .i64 n_1)) (.int .i64 n_1) h0 rfl rfl ?_)
    refine g_yes (Eq.trans (b := .bool (decide (n_1 ≥ low_2))) rfl (congrArg V.bool hg4)) (g_v1 (t := 2) (u := (.int .i64 high_3)) (.int .i64 high_3) h2 rfl rfl ?_)
    refine g_yes (Eq.trans (b := .bool (decide (n_1 ≥ low_2))) rfl (congrArg V.bool hg4)) (g_v2 (t1 := 11) (t2 := 12) (u1 := (.int .i64 n_1)) (u2 := (.int .i64 high_3)) (.bool (decide (n_1 ≤ high_3))) rfl rfl rfl rfl ?_)
    refine g_v2 (t1 := 10) (t2 := 13) (u1 := (.bool true)) (u2 := (.bool (decide (n_1 ≤ high_3)))) (.bool (decide (n_1 ≤ high_3))) (Eq.trans (b := .bool (decide (n_1 ≥ low_2))) rfl (congrArg V.bool hg4)) rfl rfl rfl ?_
    refine g_v1 (t := 14) (u := (.bool (decide (n_1 ≤ high_3)))) (.bool (decide (n_1 ≤ high_3))) rfl rfl rfl ?_
    refine g_end ?_
    refine e_end ?_
    refine renew [(6, (.bool (decide (n_1 ≤ high_3))))] rfl ?_
    rintro s h6
    refine .nsq ?_
    refine .ret ?_
    have hr := Option.some.inj h
    subst hr
    exact rrA (res_tmp h6) rfl
  · refine g_no (Eq.trans (b := .bool (decide (n_1 ≥ low_2))) rfl (congrArg V.bool hg4)) ?_
    refine g_no (Eq.trans (b := .bool (decide (n_1 ≥ low_2))) rfl (congrArg V.bool hg4)) ?_
    refine g_no (Eq.trans (b := .bool (decide (n_1 ≥ low_2))) rfl (congrArg V.bool hg4)) ?_
    refine g_v2 (t1 := 10) (t2 := 13) (u1 := (.bool false)) (u2 := (.tup [])) (.bool false) (Eq.trans (b := .bool (decide (n_1 ≥ low_2))) rfl (congrArg V.bool hg4)) rfl rfl rfl ?_
    refine g_v1 (t := 14) (u := (.bool false)) (.bool false) rfl rfl rfl ?_
    refine g_end ?_
    refine e_end ?_
    refine renew [(6, (.bool false))] rfl ?_
    rintro s h6
    refine .nsq ?_
    refine .ret ?_
    have hr := Option.some.inj h
    subst hr
    exact rrA (res_tmp h6) rfl
end
def e100 (F : Nat) : Ent := ⟨100, da (fun (x : (Int × Int × Int × Unit)) => i_within F x.1 x.2.1 x.2.2.1) (fun (r : Bool) => (Enc.enc (r : Bool))), 0, false, selF []⟩
theorem p100 {F : Nat} {x0 : Int} {x1 : Int} {x2 : Int} {r : Bool} (h : i_within F x0 x1 x2 = some r) : (e100 F).den [Enc.enc x0, Enc.enc x1, Enc.enc x2] = some (Enc.enc (r : Bool)) := da_put (f := fun (x : (Int × Int × Int × Unit)) => i_within F x.1 x.2.1 x.2.2.1) (t := fun (r : Bool) => (Enc.enc (r : Bool))) (x0, x1, x2, ()) h
theorem o100 {D : Den} {σ : Sig} {F : Nat} (hF : Fits2 Try.prog D σ) (H : H100 D σ F) : (e100 F).Ok Try.prog := by
  refine ok_of (f := 100) (show unk 100 = 100 from rfl) (fun args r h => ?_) ⟨Try.f100, Try.func100, rfl, rfl⟩
  obtain ⟨⟨x0, x1, x2, _⟩, y, rfl, hy, rfl⟩ := da_open h
  exact contract_run hF (by kernel_rfl) Try.func100 rfl c100 (show 3 ≤ Try.f100.ntmps by decide) (t100 H x0 x1 x2 _ ⟨rfl, rfl, rfl⟩ hy)
/- cmp.isNaN[int] -/
def A126_1 : AC := (AC.seq (AC.reg [] [(I.mk (some 3) none false (X.v (A.mov (O.t 0)))), (I.mk (some 4) none false (X.v (A.mov (O.t 0)))), (I.mk (some 5) none false (X.v (A.bin BinOp.neq (O.t 3) (O.t 4)))), (I.mk (some 2) none false (X.v (A.mov (O.t 5))))] []) AC.ret)
def A126 : AC := (AC.seq (AC.reg [] [(I.mk (some 2) none false (X.v (A.mov (O.k (V.bool false)))))] []) A126_1)
def an126 : List An := []
theorem c126 : cC Try.prog Try.f126.ntmps an126 (Try.f126.body.getD .skip) = some A126 := by kernel_rfl
structure H126 (D : Den) (σ : Sig) (F : Nat) : Prop where
  mk ::
abbrev R126 (r : Bool) : (Nat → V) → Prop := RR Try.prog [.tmp 2] 0 false (Enc.enc (r : Bool))
section
variable {D : Den} {σ : Sig} {F : Nat} {r : Bool}
def cmp_isNaN_int (F : Nat) (x_1 : Int) : Option Bool :=
  some (x_1 != x_1)
theorem t126 (H : H126 D σ F) (x_1 : Int) (s : Nat → V) (hs : Facts [(0, (.int .i64 x_1))] s) (h : cmp_isNaN_int F x_1 = some r) : Run D σ (R126 r) (.run A126 []) s := by
  unfold cmp_isNaN_int at h
  have h0 := hs
  refine .seq ?_
  refine run_reg ?_
  refine e_end ?_
  refine g_v0 (.bool false) rfl rfl ?_
  refine g_end ?_
  refine e_end ?_
  refine renew [(0, (.int .i64 x_1)), (2, (.bool false))] ⟨h0, rfl⟩ ?_
  rintro s ⟨h0, h2⟩
  refine .nsq ?_
  refine .seq ?_
  refine run_reg ?_
  refine e_end ?_
  refine g_v1 (t := 0) (u := (.int .i64 x_1)) (.int .i64 x_1) h0 rfl rfl ?_
  refine g_v1 (t := 0) (u := (.int .i64 x_1)) (.int .i64 x_1) h0 rfl rfl ?_
  refine g_v2 (t1 := 3) (t2 := 4) (u1 := (.int .i64 x_1)) (u2 := (.int .i64 x_1)) (.bool (x_1 != x_1)) rfl rfl rfl rfl ?_
  refine g_v1 (t := 5) (u := (.bool (x_1 != x_1))) (.bool (x_1 != x_1)) rfl rfl rfl ?_
  refine g_end ?_
  refine e_end ?_
  refine renew [(2, (.bool (x_1 != x_1)))] rfl ?_
  rintro s h2
  refine .nsq ?_
  refine .ret ?_
  have hr := Option.some.inj h
  subst hr
  exact rrA (res_tmp h2) rfl
end
def e126 (F : Nat) : Ent := ⟨126, da (fun (x : (Int × Unit)) => cmp_isNaN_int F x.1) (fun (r : Bool) => (Enc.enc (r : Bool))), 0, false, selF []⟩
theorem p126 {F : Nat} {x0 : Int} {r : Bool} (h : cmp_isNaN_int F x0 = some r) : (e126 F).den [Enc.enc x0] = some (Enc.enc (r : Bool)) := da_put (f := fun (x : (Int × Unit)) => cmp_isNaN_int F x.1) (t := fun (r : Bool) => (Enc.enc (r : Bool))) (x0, ()) h
theorem o126 {D : Den} {σ : Sig} {F : Nat} (hF : Fits2 Try.prog D σ) (H : H126 D σ F) : (e126 F).Ok Try.prog := by
  refine ok_of (f := 126) (show unk 126 = 126 from rfl) (fun args r h => ?_) ⟨Try.f126, Try.func126, rfl, rfl⟩
  obtain ⟨⟨x0, _⟩, y, rfl, hy, rfl⟩ := da_open h
  exact contract_run hF (by kernel_rfl) Try.func126 rfl c126 (show 1 ≤ Try.f126.ntmps by decide) (t126 H x0 _ rfl hy)
/- cmp.Compare[int] -/
def A123_5 : AC := (AC.cond (O.t 12) (AC.seq (AC.reg [] [(I.mk (some 4) none false (X.v (A.mov (O.k (V.int IntKind.i64 (Int.ofNat 0))))))] []) AC.ret) AC.skip)
def A123_6 : AC := (AC.seq (AC.reg [] [(I.mk (some 4) none false (X.v (A.mov (O.k (V.int IntKind.i64 (Int.negSucc 0))))))] []) AC.ret)
def A123_4 : AC := (AC.cond (O.t 11) (AC.seq (AC.seq (AC.reg [] [(I.mk (some 12) none false (X.v (A.mov (O.t 6))))] []) A123_5) A123_6) AC.skip)
def A123_8 : AC := (AC.cond (O.t 13) (AC.seq (AC.reg [] [(I.mk (some 4) none false (X.v (A.mov (O.k (V.int IntKind.i64 (Int.ofNat 1))))))] []) AC.ret) AC.skip)
def A123_10 : AC := (AC.cond (O.t 16) (AC.seq (AC.reg [] [(I.mk (some 4) none false (X.v (A.mov (O.k (V.int IntKind.i64 (Int.negSucc 0))))))] []) AC.ret) AC.skip)
def A123_12 : AC := (AC.cond (O.t 19) (AC.seq (AC.reg [] [(I.mk (some 4) none false (X.v (A.mov (O.k (V.int IntKind.i64 (Int.ofNat 1))))))] []) AC.ret) AC.skip)
def A123_13 : AC := (AC.seq (AC.reg [] [(I.mk (some 4) none false (X.v (A.mov (O.k (V.int IntKind.i64 (Int.ofNat 0))))))] []) AC.ret)
def A123_11 : AC := (AC.seq (AC.seq (AC.reg [] [(I.mk (some 17) none false (X.v (A.mov (O.t 0)))), (I.mk (some 18) none false (X.v (A.mov (O.t 1)))), (I.mk (some 19) none false (X.v (A.bin BinOp.gtr (O.t 17) (O.t 18))))] []) A123_12) A123_13)
def A123_9 : AC := (AC.seq (AC.seq (AC.reg [] [(I.mk (some 14) none false (X.v (A.mov (O.t 0)))), (I.mk (some 15) none false (X.v (A.mov (O.t 1)))), (I.mk (some 16) none false (X.v (A.bin BinOp.lss (O.t 14) (O.t 15))))] []) A123_10) A123_11)
def A123_7 : AC := (AC.seq (AC.seq (AC.reg [] [(I.mk (some 13) none false (X.v (A.mov (O.t 6))))] []) A123_8) A123_9)
def A123_3 : AC := (AC.seq (AC.seq (AC.reg [] [(I.mk (some 11) none false (X.v (A.mov (O.t 5))))] []) A123_4) A123_7)
def A123_2 : AC := (AC.seq (AC.reg [] [(I.mk (some 9) none false (X.v (A.mov (O.t 1)))), (I.mk (some 10) none false (X.call (O.k (V.fn 126 [] [])) [(O.t 9)])), (I.mk (some 6) none false (X.v (A.mov (O.t 10))))] []) A123_3)
def A123_1 : AC := (AC.seq (AC.reg [] [(I.mk (some 7) none false (X.v (A.mov (O.t 0)))), (I.mk (some 8) none false (X.call (O.k (V.fn 126 [] [])) [(O.t 7)])), (I.mk (some 5) none false (X.v (A.mov (O.t 8))))] []) A123_2)
def A123 : AC := (AC.seq (AC.reg [] [(I.mk (some 4) none false (X.v (A.mov (O.k (V.int IntKind.i64 (Int.ofNat 0))))))] []) A123_1)
def an123 : List An := []
theorem c123 : cC Try.prog Try.f123.ntmps an123 (Try.f123.body.getD .skip) = some A123 := by kernel_rfl
structure H123 (D : Den) (σ : Sig) (F : Nat) : Prop where
  c126 : ∀ (x0 : Int) r, cmp_isNaN_int F x0 = some r → D 126 [Enc.enc x0] = some (Enc.enc (r : Bool))
  g126 : σ 126 = some (0, false)
abbrev R123 (r : Int) : (Nat → V) → Prop := RR Try.prog [.tmp 4] 0 false (Enc.enc (r : Int))
section
variable {D : Den} {σ : Sig} {F : Nat} {r : Int}
def cmp_Compare_int (F : Nat) (x_1 : Int) (y_2 : Int) : Option Int :=
  (cmp_isNaN_int F x_1).bind fun r_3 =>
  (cmp_isNaN_int F y_2).bind fun r_4 =>
  bif r_3 then
    bif r_4 then
      some 0
    else
      some (-1)
  else
    bif r_4 then
      some 1
    else
      bif decide (x_1 < y_2) then
        some (-1)
      else
        bif decide (x_1 > y_2) then
          some 1
        else
          some 0
theorem t123 (H : H123 D σ F) (x_1 : Int) (y_2 : Int) (s : Nat → V) (hs : Facts [(0, (.int .i64 x_1)), (1, (.int .i64 y_2))] s) (h : cmp_Compare_int F x_1 y_2 = some r) : Run D σ (R123 r) (.run A123 []) s := by
  unfold cmp_Compare_int at h
  obtain ⟨h0, h1⟩ := hs
  refine .seq ?_
  refine run_reg ?_
  refine e_end ?_
  refine g_v0 (.int .i64 0) rfl rfl ?_
  refine g_end ?_
  refine e_end ?_
  refine renew [(0, (.int .i64 x_1)), (1, (.int .i64 y_2)), (4, (.int .i64 0))] ⟨h0, h1, rfl⟩ ?_
  rintro s ⟨h0, h1, h4⟩
  refine .nsq ?_
  refine .seq ?_
  refine run_reg ?_
  refine e_end ?_
  refine g_v1 (t := 0) (u := (.int .i64 x_1)) (.int .i64 x_1) h0 rfl rfl ?_
  obtain ⟨r_3, E_r_3, h⟩ := bind_some h
  refine g_call (m := 0) (al := false) (r := (Enc.enc (r_3 : Bool))) [Enc.enc (x_1 : Int)] (ta_cons (v := (.int .i64 x_1)) rfl rfl rfl ta_nil) (H.c126 _ _ E_r_3) H.g126 rfl rfl rfl rfl ?_
  refine g_v1 (t := 8) (u := (.bool r_3)) (.bool r_3) rfl rfl rfl ?_
  refine g_end ?_
  refine e_end ?_
  refine renew [(0, (.int .i64 x_1)), (1, (.int .i64 y_2)), (4, (.int .i64 0)), (5, (.bool r_3))] ⟨h0, h1, h4, rfl⟩ ?_
  rintro s ⟨h0, h1, h4, h5⟩
  refine .nsq ?_
  refine .seq ?_
  refine run_reg ?_
  refine e_end ?_
  refine g_v1 (t := 1) (u := (.int .i64 y_2)) (.int .i64 y_2) h1 rfl rfl ?_
  obtain ⟨r_4, E_r_4, h⟩ := bind_some h
  refine g_call (m := 0) (al := false) (r := (Enc.enc (r_4 : Bool))) [Enc.enc (y_2 : Int)] (ta_cons (v := (.int .i64 y_2)) rfl rfl rfl ta_nil) (H.c126 _ _ E_r_4) H.g126 rfl rfl rfl rfl ?_
  refine g_v1 (t := 10) (u := (.bool r_4)) (.bool r_4) rfl rfl rfl ?_
  refine g_end ?_
  refine e_end ?_
  refine renew [(0, (.int .i64 x_1)), (1, (.int .i64 y_2)), (4, (.int .i64 0)), (5, (.bool r_3)), (6, (.bool r_4))] ⟨h0, h1, h4, h5, rfl⟩ ?_
  rintro s ⟨h0, h1, h4, h5, h6⟩
  refine .nsq ?_
  refine .seq ?_
  refine .seq ?_
  refine run_reg ?_
  refine e_end ?_
  refine g_v1 (t := 5) (u := (.bool r_3)) (.bool r_3) h5 rfl rfl ?_
  refine g_end ?_
  refine e_end ?_
  refine renew [(0, (.int .i64 x_1)), (1, (.int .i64 y_2)), (4, (.int .i64 0)), (6, (.bool r_4)), (11, (.bool r_3))] ⟨h0, h1, h4, h6, rfl⟩ ?_
  rintro s ⟨h0, h1, h4, h6, h11⟩
  refine .nsq ?_
  refine run_cond (t := r_3) h11 h (fun h => ?_) (fun h => ?_)
  · refine .seq ?_
    refine .seq ?_
    refine run_reg ?_
    refine e_end ?_
    refine g_v1 (t := 6) (u := (.bool r_4)) (.bool r_4) h6 rfl rfl ?_
    refine g_end ?_
    refine e_end ?_
    refine renew [(0, (.int .i64 x_1)), (1, (.int .i64 y_2)), (4, (.int .i64 0)), (6, (.bool r_4)), (12, (.bool r_4))] ⟨h0, h1, h4, h6, rfl⟩ ?_
    rintro s ⟨h0, h1, h4, h6, h12⟩
    refine .nsq ?_
    refine run_cond (t := r_4) h12 h (fun h => ?_) (fun h => ?_)
    · refine .seq ?_
      refine run_reg ?_
      refine e_end ?_
      refine g_v0 (.int .i64 0) rfl rfl ?_
      refine g_end ?_
      refine e_end ?_
      refine renew [(0, (.int .i64 x_1)), (1, (.int .i64 y_2)), (4, (.int .i64 0)), (6, (.bool r_4))] ⟨h0, h1, rfl, h6⟩ ?_
      rintro s ⟨h0, h1, h4, h6⟩
      refine .nsq ?_
      refine .ret ?_
      have hr := Option.some.inj h
      subst hr
      exact rrA (res_tmp h4) rfl
    · refine .skip ?_
      refine .nsq ?_
      refine .seq ?_
      refine run_reg ?_
      refine e_end ?_
      refine g_v0 (.int .i64 (-1)) rfl rfl ?_
      refine g_end ?_
      refine e_end ?_
      refine renew [(0, (.int .i64 x_1)), (1, (.int .i64 y_2)), (4, (.int .i64 (-1))), (6, (.bool r_4))] ⟨h0, h1, rfl, h6⟩ ?_
      rintro s ⟨h0, h1, h4, h6⟩
      refine .nsq ?_
      refine .ret ?_
      have hr := Option.some.inj h
      subst hr
      exact rrA (res_tmp h4) rfl
  · refine .skip ?_
    refine .nsq ?_
    refine .seq ?_
    refine .seq ?_
    refine run_reg ?_
    refine e_end ?_
    refine g_v1 (t := 6) (u := (.bool r_4)) (.bool r_4) h6 rfl rfl ?_
    refine g_end ?_
    refine e_end ?_
    refine renew [(0, (.int .i64 x_1)), (1, (.int .i64 y_2)), (4, (.int .i64 0)), (13, (.bool r_4))] ⟨h0, h1, h4, rfl⟩ ?_
    rintro s ⟨h0, h1, h4, h13⟩
    refine .nsq ?_
    refine run_cond (t := r_4) h13 h (fun h => ?_) (fun h => ?_)
    · refine .seq ?_
      refine run_reg ?_
      refine e_end ?_
      refine g_v0 (.int .i64 1) rfl rfl ?_
      refine g_end ?_
      refine e_end ?_
      refine renew [(0, (.int .i64 x_1)), (1, (.int .i64 y_2)), (4, (.int .i64 1))] ⟨h0, h1, rfl⟩ ?_
      rintro s ⟨h0, h1, h4⟩
      refine .nsq ?_
      refine .ret ?_
      have hr := Option.some.inj h
      subst hr
      exact rrA (res_tmp h4) rfl
    · refine .skip ?_
      refine .nsq ?_
      refine .seq ?_
      refine .seq ?_
      refine run_reg ?_
      refine e_end ?_
      refine g_v1 (t := 0) (u := (.int .i64 x_1)) (.int .i64 x_1) h0 rfl rfl ?_
      refine g_v1 (t := 1) (u := (.int .i64 y_2)) (.int .i64 y_2) h1 rfl rfl ?_
      refine g_v2 (t1 := 14) (t2 := 15) (u1 := (.int .i64 x_1)) (u2 := (.int .i64 y_2)) (.bool (decide (x_1 < y_2))) rfl rfl rfl rfl ?_
      refine g_end ?_
      refine e_end ?_
      refine renew [(0, (.int .i64 x_1)), (1, (.int .i64 y_2)), (4, (.int .i64 0)), (16, (.bool (decide (x_1 < y_2))))] ⟨h0, h1, h4, rfl⟩ ?_
      rintro s ⟨h0, h1, h4, h16⟩
      refine .nsq ?_
      refine run_cond (t := decide (x_1 < y_2)) h16 h (fun h => ?_) (fun h => ?_)
      · refine .seq ?_
        refine run_reg ?_
        refine e_end ?_
        refine g_v0 (.int .i64 (-1)) rfl rfl ?_
        refine g_end ?_
        refine e_end ?_
        refine renew [(0, (.int .i64 x_1)), (1, (.int .i64 y_2)), (4, (.int .i64 (-1)))] ⟨h0, h1, rfl⟩ ?_
        rintro s ⟨h0, h1, h4⟩
        refine .nsq ?_
        refine .ret ?_
        have hr := Option.some.inj h
        subst hr
        exact rrA (res_tmp h4) rfl
      · refine .skip ?_
        refine .nsq ?_
        refine .seq ?_
        refine .seq ?_
        refine run_reg ?_
        refine e_end ?_
        refine g_v1 (t := 0) (u := (.int .i64 x_1)) (.int .i64 x_1) h0 rfl rfl ?_
        refine g_v1 (t := 1) (u := (.int .i64 y_2)) (.int .i64 y_2) h1 rfl rfl ?_
        refine g_v2 (t1 := 17) (t2 := 18) (u1 := (.int .i64 x_1)) (u2 := (.int .i64 y_2)) (.bool (decide (x_1 > y_2))) rfl rfl rfl rfl ?_
        refine g_end ?_
        refine e_end ?_
        refine renew [(4, (.int .i64 0)), (19, (.bool (decide (x_1 > y_2))))] ⟨h4, rfl⟩ ?_
        rintro s ⟨h4, h19⟩
        refine .nsq ?_
        refine run_cond (t := decide (x_1 > y_2)) h19 h (fun h => ?_) (fun h => ?_)
        · refine .seq ?_
          refine run_reg ?_
          refine e_end ?_
          refine g_v0 (.int .i64 1) rfl rfl ?_
          refine g_end ?_
          refine e_end ?_
          refine renew [(4, (.int .i64 1))] rfl ?_
          rintro s h4
          refine .nsq ?_
          refine .ret ?_
          have hr := Option.some.inj h
          subst hr
          exact rrA (res_tmp h4) rfl
        · refine .skip ?_
          refine .nsq ?_
          refine .seq ?_
          refine run_reg ?_
          refine e_end ?_
          refine g_v0 (.int .i64 0) rfl rfl ?_
          refine g_end ?_
          refine e_end ?_
          refine renew [(4, (.int .i64 0))] rfl ?_
          rintro s h4
          refine .nsq ?_
          refine .ret ?_
          have hr := Option.some.inj h
          subst hr
          exact rrA (res_tmp h4) rfl
end
def e123 (F : Nat) : Ent := ⟨123, da (fun (x : (Int × Int × Unit)) => cmp_Compare_int F x.1 x.2.1) (fun (r : Int) => (Enc.enc (r : Int))), 0, false, selF []⟩
theorem p123 {F : Nat} {x0 : Int} {x1 : Int} {r : Int} (h : cmp_Compare_int F x0 x1 = some r) : (e123 F).den [Enc.enc x0, Enc.enc x1] = some (Enc.enc (r : Int)) := da_put (f := fun (x : (Int × Int × Unit)) => cmp_Compare_int F x.1 x.2.1) (t := fun (r : Int) => (Enc.enc (r : Int))) (x0, x1, ()) h
theorem o123 {D : Den} {σ : Sig} {F : Nat} (hF : Fits2 Try.prog D σ) (H : H123 D σ F) : (e123 F).Ok Try.prog := by
  refine ok_of (f := 123) (show unk 123 = 123 from rfl) (fun args r h => ?_) ⟨Try.f123, Try.func123, rfl, rfl⟩
  obtain ⟨⟨x0, x1, _⟩, y, rfl, hy, rfl⟩ := da_open h
  exact contract_run hF (by kernel_rfl) Try.func123 rfl c123 (show 2 ≤ Try.f123.ntmps by decide) (t123 H x0 x1 _ ⟨rfl, rfl⟩ hy)
/- slices.Compare[[]int,int] -/
def A101_5 : AC := (AC.cond (O.t 19) (AC.seq (AC.reg [] [(I.mk (some 4) none false (X.v (A.mov (O.k (V.int IntKind.i64 (Int.ofNat 1))))))] []) AC.ret) AC.skip)
def A101_9 : AC := (AC.cond (O.t 28) (AC.seq (AC.reg [] [(I.mk (some 29) none false (X.v (A.mov (O.t 8)))), (I.mk (some 4) none false (X.v (A.mov (O.t 29))))] []) AC.ret) AC.skip)
def A101_8 : AC := (AC.seq (AC.reg [] [(I.mk (some 27) none false (X.v (A.mov (O.t 8)))), (I.mk (some 28) none false (X.v (A.bin BinOp.neq (O.t 27) (O.k (V.int IntKind.i64 (Int.ofNat 0))))))] []) A101_9)
def A101_7 : AC := (AC.seq (AC.reg [] [(I.mk (some 24) none false (X.v (A.mov (O.t 6)))), (I.mk (some 25) none false (X.v (A.mov (O.t 7)))), (I.mk (some 26) none false (X.call (O.k (V.fn 123 [] [])) [(O.t 24), (O.t 25)])), (I.mk (some 8) none false (X.v (A.mov (O.t 26))))] []) A101_8)
def A101_6 : AC := (AC.seq (AC.reg [] [(I.mk (some 20) none false (X.v (A.mov (O.t 1)))), (I.mk (some 21) none false (X.v (A.mov (O.t 5)))), (I.mk (some 22) none false (X.v (A.idx (O.t 20) (O.t 21) 1))), (I.mk (some 23) none false (X.v (A.load Sh.s (O.t 22)))), (I.mk (some 7) none false (X.v (A.mov (O.t 23))))] []) A101_7)
def A101_4 : AC := (AC.seq (AC.seq (AC.reg [] [(I.mk (some 16) none false (X.v (A.mov (O.t 5)))), (I.mk (some 17) none false (X.v (A.mov (O.t 1)))), (I.mk (some 18) none false (X.v (A.len (O.t 17)))), (I.mk (some 19) none false (X.v (A.bin BinOp.geq (O.t 16) (O.t 18))))] []) A101_5) A101_6)
def A101_10 : AC := (AC.reg [] [(I.mk (some 30) none false (X.v (A.bin BinOp.add (O.t 11) (O.k (V.int IntKind.i64 (Int.ofNat 1)))))), (I.mk (some 11) none false (X.v (A.mov (O.t 30))))] [])
def A101_3 : AC := (AC.seq (AC.block 1 (AC.seq (AC.reg [] [(I.mk (some 13) none false (X.v (A.mov (O.t 11)))), (I.mk (some 14) none false (X.v (A.idx (O.t 9) (O.t 11) 1))), (I.mk (some 15) none false (X.v (A.load Sh.s (O.t 14)))), (I.mk (some 5) none false (X.v (A.mov (O.t 13)))), (I.mk (some 6) none false (X.v (A.mov (O.t 15))))] []) A101_4)) A101_10)
def A101_2 : AC := (AC.seq (AC.cond (O.t 12) AC.skip (AC.exit 0)) A101_3)
def A101_1 : AC := (AC.seq (AC.reg [] [(I.mk (some 12) none false (X.v (A.bin BinOp.lss (O.t 11) (O.t 10))))] []) A101_2)
def A101_12 : AC := (AC.cond (O.t 35) (AC.seq (AC.reg [] [(I.mk (some 4) none false (X.v (A.mov (O.k (V.int IntKind.i64 (Int.negSucc 0))))))] []) AC.ret) AC.skip)
def A101_13 : AC := (AC.seq (AC.reg [] [(I.mk (some 4) none false (X.v (A.mov (O.k (V.int IntKind.i64 (Int.ofNat 0))))))] []) AC.ret)
def A101_11 : AC := (AC.seq (AC.seq (AC.reg [] [(I.mk (some 31) none false (X.v (A.mov (O.t 0)))), (I.mk (some 32) none false (X.v (A.len (O.t 31)))), (I.mk (some 33) none false (X.v (A.mov (O.t 1)))), (I.mk (some 34) none false (X.v (A.len (O.t 33)))), (I.mk (some 35) none false (X.v (A.bin BinOp.lss (O.t 32) (O.t 34))))] []) A101_12) A101_13)
def A101_15 : AC := (AC.block 0 (AC.loop A101_1))
def A101_14 : AC := (AC.seq (AC.seq (AC.reg [] [(I.mk (some 9) none false (X.v (A.mov (O.t 0)))), (I.mk (some 10) none false (X.v (A.len (O.t 9)))), (I.mk (some 11) none false (X.v (A.mov (O.k (V.int IntKind.i64 (Int.ofNat 0))))))] []) A101_15) A101_11)
def A101 : AC := (AC.seq (AC.reg [] [(I.mk (some 4) none false (X.v (A.mov (O.k (V.int IntKind.i64 (Int.ofNat 0))))))] []) A101_14)
def an101 : List An := []
theorem c101 : cC Try.prog Try.f101.ntmps an101 (Try.f101.body.getD .skip) = some A101 := by kernel_rfl
structure H101 (D : Den) (σ : Sig) (F : Nat) : Prop where
  c123 : ∀ (x0 : Int) (x1 : Int) r, cmp_Compare_int F x0 x1 = some r → D 123 [Enc.enc x0, Enc.enc x1] = some (Enc.enc (r : Int))
  g123 : σ 123 = some (0, false)
abbrev R101 (r : Int) : (Nat → V) → Prop := RR Try.prog [.tmp 4] 0 false (Enc.enc (r : Int))
section
variable {D : Den} {σ : Sig} {F : Nat} {r : Int}
def slices_Compare_l1 (F : Nat) (s1_1 : (List Int)) (s2_2 : (List Int))  : Nat → Int → Option Int
  | 0, _ => none
  | k + 1, t11_6 =>
    bif decide (t11_6 < (s1_1.length : Int)) then
      (idx s1_1 t11_6).bind fun e_10 =>
      bif decide (t11_6 ≥ (s2_2.length : Int)) then
        some 1
      else
        (idx s2_2 t11_6).bind fun e_11 =>
        (cmp_Compare_int F e_10 e_11).bind fun r_12 =>
        bif (r_12 != 0) then
          some r_12
        else
          (slices_Compare_l1 F s1_1 s2_2 k) (w64 (t11_6 + 1))
    else
      bif decide ((s1_1.length : Int) < (s2_2.length : Int)) then
        some (-1)
      else
        some 0
theorem t_f101_l1 (H : H101 D σ F) (s1_1 : (List Int)) (s2_2 : (List Int))  : ∀ (k : Nat) (t11_6 : Int) (s : Nat → V), Facts [(0, (Enc.enc (s1_1 : List Int))), (1, (Enc.enc (s2_2 : List Int))), (4, (.int .i64 0)), (9, (Enc.enc (s1_1 : List Int))), (10, (.int .i64 (s1_1.length : Int))), (11, (.int .i64 t11_6))] s → slices_Compare_l1 F s1_1 s2_2 k t11_6 = some r → Run D σ (R101 r) (.run A101_1 [.lp A101_1, .bk 0, .sq A101_11]) s := by
  intro k
  induction k with
  | zero => intro t11_6 s _ h; exact nomatch (h : (none : Option _) = some r)
  | succ k ih =>
    intro t11_6 s hs h
    rw [slices_Compare_l1] at h
    obtain ⟨h0, h1, h4, h9, h10, h11⟩ := hs
    refine .seq ?_
    refine run_reg ?_
    refine e_end ?_
    refine g_v2 (t1 := 11) (t2 := 10) (u1 := (.int .i64 t11_6)) (u2 := (.int .i64 (s1_1.length : Int))) (.bool (decide (t11_6 < (s1_1.length : Int)))) h11 h10 rfl rfl ?_
    refine g_end ?_
    refine e_end ?_
    refine renew [(0, (Enc.enc (s1_1 : List Int))), (1, (Enc.enc (s2_2 : List Int))), (4, (.int .i64 0)), (9, (Enc.enc (s1_1 : List Int))), (10, (.int .i64 (s1_1.length : Int))), (11, (.int .i64 t11_6)), (12, (.bool (decide (t11_6 < (s1_1.length : Int)))))] ⟨h0, h1, h4, h9, h10, h11, rfl⟩ ?_
    rintro s ⟨h0, h1, h4, h9, h10, h11, h12⟩
    refine .nsq ?_
    refine .seq ?_
    refine run_cond (t := decide (t11_6 < (s1_1.length : Int))) h12 h (fun h => ?_) (fun h => ?_)
    · refine .skip ?_
      refine .nsq ?_
      refine .seq ?_
      refine .block ?_
      refine .seq ?_
      refine run_reg ?_
      refine e_end ?_
      refine g_v1 (t := 11) (u := (.int .i64 t11_6)) (.int .i64 t11_6) h11 rfl rfl ?_
      obtain ⟨e_10, E_e_10, h⟩ := bind_some h
      refine g_v (.ref .sh 0 [] (.int .i64 e_10)) (ev_idx (t := .sh) (lo := 0) (xs := s1_1) h9 h11 E_e_10 rfl rfl) ?_
      refine g_v1 (t := 14) (u := (.ref .sh 0 [] (.int .i64 e_10))) (.int .i64 e_10) rfl rfl rfl ?_
      refine g_v1 (t := 13) (u := (.int .i64 t11_6)) (.int .i64 t11_6) rfl rfl rfl ?_
      refine g_v1 (t := 15) (u := (.int .i64 e_10)) (.int .i64 e_10) rfl rfl rfl ?_
      refine g_end ?_
      refine e_end ?_
      refine renew [(0, (Enc.enc (s1_1 : List Int))), (1, (Enc.enc (s2_2 : List Int))), (4, (.int .i64 0)), (5, (.int .i64 t11_6)), (6, (.int .i64 e_10)), (9, (Enc.enc (s1_1 : List Int))), (10, (.int .i64 (s1_1.length : Int))), (11, (.int .i64 t11_6))] ⟨h0, h1, h4, rfl, rfl, h9, h10, h11⟩ ?_
      rintro s ⟨h0, h1, h4, h5, h6, h9, h10, h11⟩
      refine .nsq ?_
      refine .seq ?_
      refine .seq ?_
      refine run_reg ?_
      refine e_end ?_
      refine g_v1 (t := 5) (u := (.int .i64 t11_6)) (.int .i64 t11_6) h5 rfl rfl ?_
      refine g_v1 (t := 1) (u := (Enc.enc (s2_2 : List Int))) (Enc.enc (s2_2 : List Int)) h1 rfl rfl ?_
      refine g_v (.int .i64 (s2_2.length : Int)) (ev_len (xs := s2_2) rfl) ?_
      refine g_v2 (t1 := 16) (t2 := 18) (u1 := (.int .i64 t11_6)) (u2 := (.int .i64 (s2_2.length : Int))) (.bool (decide (t11_6 ≥ (s2_2.length : Int)))) rfl rfl rfl rfl ?_
      refine g_end ?_
      refine e_end ?_
      refine renew [(0, (Enc.enc (s1_1 : List Int))), (1, (Enc.enc (s2_2 : List Int))), (4, (.int .i64 0)), (5, (.int .i64 t11_6)), (6, (.int .i64 e_10)), (9, (Enc.enc (s1_1 : List Int))), (10, (.int .i64 (s1_1.length : Int))), (11, (.int .i64 t11_6)), (19, (.bool (decide (t11_6 ≥ (s2_2.length : Int)))))] ⟨h0, h1, h4, h5, h6, h9, h10, h11, rfl⟩ ?_
      rintro s ⟨h0, h1, h4, h5, h6, h9, h10, h11, h19⟩
      refine .nsq ?_
      refine run_cond (t := decide (t11_6 ≥ (s2_2.length : Int))) h19 h (fun h => ?_) (fun h => ?_)
      · refine .seq ?_
        refine run_reg ?_
        refine e_end ?_
        refine g_v0 (.int .i64 1) rfl rfl ?_
        refine g_end ?_
        refine e_end ?_
        refine renew [(0, (Enc.enc (s1_1 : List Int))), (1, (Enc.enc (s2_2 : List Int))), (4, (.int .i64 1)), (5, (.int .i64 t11_6)), (6, (.int .i64 e_10)), (9, (Enc.enc (s1_1 : List Int))), (10, (.int .i64 (s1_1.length : Int))), (11, (.int .i64 t11_6))] ⟨h0, h1, rfl, h5, h6, h9, h10, h11⟩ ?_
        rintro s ⟨h0, h1, h4, h5, h6, h9, h10, h11⟩
        refine .nsq ?_
        refine .ret ?_
        have hr := Option.some.inj h
        subst hr
        exact rrA (res_tmp h4) rfl
      · refine .skip ?_
        refine .nsq ?_
        refine .seq ?_
        refine run_reg ?_
        refine e_end ?_
        refine g_v1 (t := 1) (u := (Enc.enc (s2_2 : List Int))) (Enc.enc (s2_2 : List Int)) h1 rfl rfl ?_
        refine g_v1 (t := 5) (u := (.int .i64 t11_6)) (.int .i64 t11_6) h5 rfl rfl ?_
        obtain ⟨e_11, E_e_11, h⟩ := bind_some h
        refine g_v (.ref .sh 0 [] (.int .i64 e_11)) (ev_idx (t := .sh) (lo := 0) (xs := s2_2) rfl rfl E_e_11 rfl rfl) ?_
        refine g_v1 (t := 22) (u := (.ref .sh 0 [] (.int .i64 e_11))) (.int .i64 e_11) rfl rfl rfl ?_
        refine g_v1 (t := 23) (u := (.int .i64 e_11)) (.int .i64 e_11) rfl rfl rfl ?_
        refine g_end ?_
        refine e_end ?_
        refine renew [(0, (Enc.enc (s1_1 : List Int))), (1, (Enc.enc (s2_2 : List Int))), (4, (.int .i64 0)), (6, (.int .i64 e_10)), (7, (.int .i64 e_11)), (9, (Enc.enc (s1_1 : List Int))), (10, (.int .i64 (s1_1.length : Int))), (11, (.int .i64 t11_6))] ⟨h0, h1, h4, h6, rfl, h9, h10, h11⟩ ?_
        rintro s ⟨h0, h1, h4, h6, h7, h9, h10, h11⟩
        refine .nsq ?_
        refine .seq ?_
        refine run_reg ?_
        refine e_end ?_
        refine g_v1 (t := 6) (u := (.int .i64 e_10)) (.int .i64 e_10) h6 rfl rfl ?_
        refine g_v1 (t := 7) (u := (.int .i64 e_11)) (.int .i64 e_11) h7 rfl rfl ?_
        obtain ⟨r_12, E_r_12, h⟩ := bind_some h
        refine g_call (m := 0) (al := false) (r := (Enc.enc (r_12 : Int))) [Enc.enc (e_10 : Int), Enc.enc (e_11 : Int)] (ta_cons (v := (.int .i64 e_10)) rfl rfl rfl (ta_cons (v := (.int .i64 e_11)) rfl rfl rfl ta_nil)) (H.c123 _ _ _ E_r_12) H.g123 rfl rfl rfl rfl ?_
        refine g_v1 (t := 26) (u := (.int .i64 r_12)) (.int .i64 r_12) rfl rfl rfl ?_
        refine g_end ?_
        refine e_end ?_
        refine renew [(0, (Enc.enc (s1_1 : List Int))), (1, (Enc.enc (s2_2 : List Int))), (4, (.int .i64 0)), (8, (.int .i64 r_12)), (9, (Enc.enc (s1_1 : List Int))), (10, (.int .i64 (s1_1.length : Int))), (11, (.int .i64 t11_6))] ⟨h0, h1, h4, rfl, h9, h10, h11⟩ ?_
        rintro s ⟨h0, h1, h4, h8, h9, h10, h11⟩
        refine .nsq ?_
        refine .seq ?_
        refine run_reg ?_
        refine e_end ?_
        refine g_v1 (t := 8) (u := (.int .i64 r_12)) (.int .i64 r_12) h8 rfl rfl ?_
        refine g_v1 (t := 27) (u := (.int .i64 r_12)) (.bool (r_12 != 0)) rfl rfl rfl ?_
        refine g_end ?_
        refine e_end ?_
        refine renew [(0, (Enc.enc (s1_1 : List Int))), (1, (Enc.enc (s2_2 : List Int))), (4, (.int .i64 0)), (8, (.int .i64 r_12)), (9, (Enc.enc (s1_1 : List Int))), (10, (.int .i64 (s1_1.length : Int))), (11, (.int .i64 t11_6)), (28, (.bool (r_12 != 0)))] ⟨h0, h1, h4, h8, h9, h10, h11, rfl⟩ ?_
        rintro s ⟨h0, h1, h4, h8, h9, h10, h11, h28⟩
        refine .nsq ?_
        refine run_cond (t := (r_12 != 0)) h28 h (fun h => ?_) (fun h => ?_)
        · refine .seq ?_
          refine run_reg ?_
          refine e_end ?_
          refine g_v1 (t := 8) (u := (.int .i64 r_12)) (.int .i64 r_12) h8 rfl rfl ?_
          refine g_v1 (t := 29) (u := (.int .i64 r_12)) (.int .i64 r_12) rfl rfl rfl ?_
          refine g_end ?_
          refine e_end ?_
          refine renew [(0, (Enc.enc (s1_1 : List Int))), (1, (Enc.enc (s2_2 : List Int))), (4, (.int .i64 r_12)), (9, (Enc.enc (s1_1 : List Int))), (10, (.int .i64 (s1_1.length : Int))), (11, (.int .i64 t11_6))] ⟨h0, h1, rfl, h9, h10, h11⟩ ?_
          rintro s ⟨h0, h1, h4, h9, h10, h11⟩
          refine .nsq ?_
          refine .ret ?_
          have hr := Option.some.inj h
          subst hr
          exact rrA (res_tmp h4) rfl
        · refine .skip ?_
          refine .nbk ?_
          refine .nsq ?_
          refine run_reg ?_
          refine e_end ?_
          refine g_v1 (t := 11) (u := (.int .i64 t11_6)) (.int .i64 (w64 (t11_6 + 1))) h11 rfl rfl ?_
          refine g_v1 (t := 30) (u := (.int .i64 (w64 (t11_6 + 1)))) (.int .i64 (w64 (t11_6 + 1))) rfl rfl rfl ?_
          refine g_end ?_
          refine e_end ?_
          refine renew [(0, (Enc.enc (s1_1 : List Int))), (1, (Enc.enc (s2_2 : List Int))), (4, (.int .i64 0)), (9, (Enc.enc (s1_1 : List Int))), (10, (.int .i64 (s1_1.length : Int))), (11, (.int .i64 (w64 (t11_6 + 1))))] ⟨h0, h1, h4, h9, h10, rfl⟩ ?_
          rintro s ⟨h0, h1, h4, h9, h10, h11⟩
          refine .nlp ?_
          exact ih (w64 (t11_6 + 1)) _ ⟨h0, h1, h4, h9, h10, h11⟩ h
    · refine .exit ?_
      refine .esq ?_
      refine .elp ?_
      refine .ebk ?_
      refine .nsq ?_
      refine .seq ?_
      refine .seq ?_
      refine run_reg ?_
      refine e_end ?_
      refine g_v1 (t := 0) (u := (Enc.enc (s1_1 : List Int))) (Enc.enc (s1_1 : List Int)) h0 rfl rfl ?_
      refine g_v (.int .i64 (s1_1.length : Int)) (ev_len (xs := s1_1) rfl) ?_
      refine g_v1 (t := 1) (u := (Enc.enc (s2_2 : List Int))) (Enc.enc (s2_2 : List Int)) h1 rfl rfl ?_
      refine g_v (.int .i64 (s2_2.length : Int)) (ev_len (xs := s2_2) rfl) ?_
      refine g_v2 (t1 := 32) (t2 := 34) (u1 := (.int .i64 (s1_1.length : Int))) (u2 := (.int .i64 (s2_2.length : Int))) (.bool (decide ((s1_1.length : Int) < (s2_2.length : Int)))) rfl rfl rfl rfl ?_
      refine g_end ?_
      refine e_end ?_
      refine renew [(4, (.int .i64 0)), (35, (.bool (decide ((s1_1.length : Int) < (s2_2.length : Int)))))] ⟨h4, rfl⟩ ?_
      rintro s ⟨h4, h35⟩
      refine .nsq ?_
      refine run_cond (t := decide ((s1_1.length : Int) < (s2_2.length : Int))) h35 h (fun h => ?_) (fun h => ?_)
      · refine .seq ?_
        refine run_reg ?_
        refine e_end ?_
        refine g_v0 (.int .i64 (-1)) rfl rfl ?_
        refine g_end ?_
        refine e_end ?_
        refine renew [(4, (.int .i64 (-1)))] rfl ?_
        rintro s h4
        refine .nsq ?_
        refine .ret ?_
        have hr := Option.some.inj h
        subst hr
        exact rrA (res_tmp h4) rfl
      · refine .skip ?_
        refine .nsq ?_
        refine .seq ?_
        refine run_reg ?_
        refine e_end ?_
        refine g_v0 (.int .i64 0) rfl rfl ?_
        refine g_end ?_
        refine e_end ?_
        refine renew [(4, (.int .i64 0))] rfl ?_
        rintro s h4
        refine .nsq ?_
        refine .ret ?_
        have hr := Option.some.inj h
        subst hr
        exact rrA (res_tmp h4) rfl
def slices_Compare (F : Nat) (s1_1 : (List Int)) (s2_2 : (List Int)) : Option Int :=
  slices_Compare_l1 F s1_1 s2_2 F 0
theorem t101 (H : H101 D σ F) (s1_1 : (List Int)) (s2_2 : (List Int)) (s : Nat → V) (hs : Facts [(0, (Enc.enc (s1_1 : List Int))), (1, (Enc.enc (s2_2 : List Int)))] s) (h : slices_Compare F s1_1 s2_2 = some r) : Run D σ (R101 r) (.run A101 []) s := by
  unfold slices_Compare at h
  obtain ⟨h0, h1⟩ := hs
  refine .seq ?_
  refine run_reg ?_
  refine e_end ?_
  refine g_v0 (.int .i64 0) rfl rfl ?_
  refine g_end ?_
  refine e_end ?_
  refine renew [(0, (Enc.enc (s1_1 : List Int))), (1, (Enc.enc (s2_2 : List Int))), (4, (.int .i64 0))] ⟨h0, h1, rfl⟩ ?_
  rintro s ⟨h0, h1, h4⟩
  refine .nsq ?_
  refine .seq ?_
  refine .seq ?_
  refine run_reg ?_
  refine e_end ?_
  refine g_v1 (t := 0) (u := (Enc.enc (s1_1 : List Int))) (Enc.enc (s1_1 : List Int)) h0 rfl rfl ?_
  refine g_v (.int .i64 (s1_1.length : Int)) (ev_len (xs := s1_1) rfl) ?_
  refine g_v0 (.int .i64 0) rfl rfl ?_
  refine g_end ?_
  refine e_end ?_
  refine renew [(0, (Enc.enc (s1_1 : List Int))), (1, (Enc.enc (s2_2 : List Int))), (4, (.int .i64 0)), (9, (Enc.enc (s1_1 : List Int))), (10, (.int .i64 (s1_1.length : Int))), (11, (.int .i64 0))] ⟨h0, h1, h4, rfl, rfl, rfl⟩ ?_
  rintro s ⟨h0, h1, h4, h9, h10, h11⟩
  refine .nsq ?_
  refine .block ?_
  refine .loop ?_
  exact t_f101_l1 H s1_1 s2_2 F 0 _ ⟨h0, h1, h4, h9, h10, h11⟩ h
end
def e101 (F : Nat) : Ent := ⟨101, da (fun (x : ((List Int) × (List Int) × Unit)) => slices_Compare F x.1 x.2.1) (fun (r : Int) => (Enc.enc (r : Int))), 0, false, selF []⟩
theorem p101 {F : Nat} {x0 : (List Int)} {x1 : (List Int)} {r : Int} (h : slices_Compare F x0 x1 = some r) : (e101 F).den [Enc.enc x0, Enc.enc x1] = some (Enc.enc (r : Int)) := da_put (f := fun (x : ((List Int) × (List Int) × Unit)) => slices_Compare F x.1 x.2.1) (t := fun (r : Int) => (Enc.enc (r : Int))) (x0, x1, ()) h
theorem o101 {D : Den} {σ : Sig} {F : Nat} (hF : Fits2 Try.prog D σ) (H : H101 D σ F) : (e101 F).Ok Try.prog := by
  refine ok_of (f := 101) (show unk 101 = 101 from rfl) (fun args r h => ?_) ⟨Try.f101, Try.func101, rfl, rfl⟩
  obtain ⟨⟨x0, x1, _⟩, y, rfl, hy, rfl⟩ := da_open h
  exact contract_run hF (by kernel_rfl) Try.func101 rfl c101 (show 2 ≤ Try.f101.ntmps by decide) (t101 H x0 x1 _ ⟨rfl, rfl⟩ hy)
/- loop.example/g01109/impl.IsGraph -/
def A51_5 : AC := (AC.cond (O.t 48) (AC.seq (AC.reg [] [(I.mk (some 2) none false (X.v (A.mov (O.k (V.bool false)))))] []) AC.ret) AC.skip)
def A51_4 : AC := (AC.seq (AC.reg [] [(I.mk (some 17) none false (X.v (A.idxA (O.t 4) (O.k (V.int IntKind.i64 (Int.ofNat 0))) 2 1))), (I.mk (some 18) none false (X.v (A.load Sh.s (O.t 17)))), (I.mk (some 19) none false (X.v (A.bin BinOp.lss (O.t 18) (O.k (V.int IntKind.i64 (Int.ofNat 0)))))), (I.mk (some 20) none false (X.v (A.mov (O.t 19)))), (I.mk (some 21) (some (20, false)) false (X.v (A.idxA (O.t 4) (O.k (V.int IntKind.i64 (Int.ofNat 0))) 2 1))), (I.mk (some 22) (some (20, false)) false (X.v (A.load Sh.s (O.t 21)))), (I.mk (some 23) (some (20, false)) false (X.v (A.idxA (O.t 4) (O.k (V.int IntKind.i64 (Int.ofNat 1))) 2 1))), (I.mk (some 24) (some (20, false)) false (X.v (A.load Sh.s (O.t 23)))), (I.mk (some 25) (some (20, false)) false (X.v (A.bin BinOp.geq (O.t 22) (O.t 24)))), (I.mk (some 26) none false (X.v (A.pick (O.t 20) (O.k (V.bool true)) (O.t 25)))), (I.mk (some 27) none false (X.v (A.mov (O.t 26)))), (I.mk (some 28) (some (27, false)) false (X.v (A.idxA (O.t 4) (O.k (V.int IntKind.i64 (Int.ofNat 1))) 2 1))), (I.mk (some 29) (some (27, false)) false (X.v (A.load Sh.s (O.t 28)))), (I.mk (some 30) (some (27, false)) false (X.v (A.fld (O.t 1) 0 0))), (I.mk (some 31) (some (27, false)) false (X.v (A.load Sh.s (O.t 30)))), (I.mk (some 32) (some (27, false)) false (X.v (A.bin BinOp.geq (O.t 29) (O.t 31)))), (I.mk (some 33) none false (X.v (A.pick (O.t 27) (O.k (V.bool true)) (O.t 32)))), (I.mk (some 34) none false (X.v (A.mov (O.t 33)))), (I.mk (some 35) (some (34, false)) false (X.v (A.mov (O.t 3)))), (I.mk (some 36) (some (34, false)) false (X.v (A.bin BinOp.gtr (O.t 35) (O.k (V.int IntKind.i64 (Int.ofNat 0)))))), (I.mk (some 37) (some (34, false)) false (X.v (A.mov (O.t 36)))), (I.mk (some 38) (some (37, true)) false (X.v (A.fld (O.t 1) 1 1))), (I.mk (some 39) (some (37, true)) false (X.v (A.load Sh.p (O.t 38)))), (I.mk (some 40) (some (37, true)) false (X.v (A.mov (O.t 3)))), (I.mk (some 41) (some (37, true)) false (X.v (A.bin BinOp.sub (O.t 40) (O.k (V.int IntKind.i64 (Int.ofNat 1)))))), (I.mk (some 42) (some (37, true)) false (X.v (A.idx (O.t 39) (O.t 41) 2))), (I.mk (some 43) (some (37, true)) false (X.v (A.sliceA (O.t 42) 2 Sh.s))), (I.mk (some 44) (some (37, true)) false (X.v (A.sliceA (O.t 4) 2 Sh.s))), (I.mk (some 45) (some (37, true)) false (X.call (O.k (V.fn 101 [] [])) [(O.t 43), (O.t 44)])), (I.mk (some 46) (some (37, true)) false (X.v (A.bin BinOp.geq (O.t 45) (O.k (V.int IntKind.i64 (Int.ofNat 0)))))), (I.mk (some 47) (some (34, false)) false (X.v (A.pick (O.t 37) (O.t 46) (O.k (V.bool false))))), (I.mk (some 48) none false (X.v (A.pick (O.t 34) (O.k (V.bool true)) (O.t 47))))] []) A51_5)
def A51_6 : AC := (AC.reg [] [(I.mk (some 49) none false (X.v (A.bin BinOp.add (O.t 12) (O.k (V.int IntKind.i64 (Int.ofNat 1)))))), (I.mk (some 12) none false (X.v (A.mov (O.t 49))))] [])
def A51_3 : AC := (AC.seq (AC.block 1 (AC.seq (AC.reg [.clr [4]] [(I.mk (some 14) none false (X.v (A.mov (O.t 12)))), (I.mk (some 15) none false (X.v (A.idx (O.t 10) (O.t 12) 2))), (I.mk (some 16) none false (X.v (A.load (Sh.ag [Sh.s, Sh.s]) (O.t 15)))), (I.mk (some 4) none false (X.alloc (V.agg [(V.int IntKind.i64 (Int.ofNat 0)), (V.int IntKind.i64 (Int.ofNat 0))]))), (I.mk (some 3) none false (X.v (A.mov (O.t 14)))), (I.mk none none false (X.store (Sh.ag [Sh.s, Sh.s]) (O.t 4) (O.t 16)))] []) A51_4)) A51_6)
def A51_2 : AC := (AC.seq (AC.cond (O.t 13) AC.skip (AC.exit 0)) A51_3)
def A51_1 : AC := (AC.seq (AC.reg [] [(I.mk (some 13) none false (X.v (A.bin BinOp.lss (O.t 12) (O.t 11))))] []) A51_2)
def A51_7 : AC := (AC.seq (AC.reg [] [(I.mk (some 2) none false (X.v (A.mov (O.k (V.bool true)))))] []) AC.ret)
def A51_9 : AC := (AC.cond (O.t 8) (AC.seq (AC.reg [] [(I.mk (some 2) none false (X.v (A.mov (O.k (V.bool false)))))] []) AC.ret) AC.skip)
def A51_11 : AC := (AC.block 0 (AC.loop A51_1))
def A51_10 : AC := (AC.seq (AC.seq (AC.reg [] [(I.mk (some 9) none false (X.v (A.fld (O.t 1) 1 1))), (I.mk (some 10) none false (X.v (A.load Sh.p (O.t 9)))), (I.mk (some 11) none false (X.v (A.len (O.t 10)))), (I.mk (some 12) none false (X.v (A.mov (O.k (V.int IntKind.i64 (Int.ofNat 0))))))] []) A51_11) A51_7)
def A51_8 : AC := (AC.seq (AC.seq (AC.reg [] [(I.mk (some 5) none false (X.v (A.fld (O.t 1) 0 0))), (I.mk (some 6) none false (X.v (A.load Sh.s (O.t 5)))), (I.mk (some 7) none false (X.call (O.k (V.fn 100 [] [])) [(O.t 6), (O.k (V.int IntKind.i64 (Int.ofNat 0))), (O.k (V.int IntKind.i64 (Int.ofNat 8)))])), (I.mk (some 8) none false (X.v (A.un UnOp.not (O.t 7))))] []) A51_9) A51_10)
def A51 : AC := (AC.seq (AC.reg [.clr [1]] [(I.mk (some 1) none false (X.box (O.t 0))), (I.mk (some 2) none false (X.v (A.mov (O.k (V.bool false)))))] []) A51_8)
def an51 : List An := [{ id := 0, pre := [.clr [1]], ep := [], lin := [], sp := [] }, { id := 5, pre := [.clr [4]], ep := [], lin := [], sp := [] }]
theorem c51 : cC Try.prog Try.f51.ntmps an51 (Try.f51.body.getD .skip) = some A51 := by kernel_rfl
structure H51 (D : Den) (σ : Sig) (F : Nat) : Prop where
  c100 : ∀ (x0 : Int) (x1 : Int) (x2 : Int) r, i_within F x0 x1 x2 = some r → D 100 [Enc.enc x0, Enc.enc x1, Enc.enc x2] = some (Enc.enc (r : Bool))
  g100 : σ 100 = some (0, false)
  c101 : ∀ (x0 : (List Int)) (x1 : (List Int)) r, slices_Compare F x0 x1 = some r → D 101 [Enc.enc x0, Enc.enc x1] = some (Enc.enc (r : Int))
  g101 : σ 101 = some (0, false)
abbrev R51 (r : Bool) : (Nat → V) → Prop := RR Try.prog [.tmp 2] 0 false (Enc.enc (r : Bool))
section
variable {D : Den} {σ : Sig} {F : Nat} {r : Bool}
def i_IsGraph_j1 (F : Nat) (g_1 : (Int × (List (Int × Int)))) (t12_9 : Int) (c1 : Int → Option Bool) (t48_19 : Bool) : Option Bool :=
  bif t48_19 then
    some false
  else
    c1 (w64 (t12_9 + 1))
theorem t_f51_j1 (H : H51 D σ F) (g_1 : (Int × (List (Int × Int)))) (t12_9 : Int) (c1 : Int → Option Bool) (Hc1 : ∀ (t12_9 : Int) (s : Nat → V), Facts [(1, (.ref (.bx 1) 0 [] (.agg [(.int .i64 g_1.1), (Enc.enc (g_1.2 : List (Int × Int)))]))), (2, (.bool false)), (10, (Enc.enc (g_1.2 : List (Int × Int)))), (11, (.int .i64 (g_1.2.length : Int))), (12, (.int .i64 t12_9))] s → c1 t12_9 = some r → Run D σ (R51 r) (.run A51_1 [.lp A51_1, .bk 0, .sq A51_7]) s) (t48_19 : Bool) (s : Nat → V) (hs : Facts [(1, (.ref (.bx 1) 0 [] (.agg [(.int .i64 g_1.1), (Enc.enc (g_1.2 : List (Int × Int)))]))), (2, (.bool false)), (10, (Enc.enc (g_1.2 : List (Int × Int)))), (11, (.int .i64 (g_1.2.length : Int))), (12, (.int .i64 t12_9)), (48, (.bool t48_19))] s) (h : i_IsGraph_j1 F g_1 t12_9 c1 t48_19 = some r) : Run D σ (R51 r) (.nrm [.sq A51_5, .bk 1, .sq A51_6, .lp A51_1, .bk 0, .sq A51_7]) s := by
  unfold i_IsGraph_j1 at h
  obtain ⟨h1, h2, h10, h11, h12, h48⟩ := hs
  refine .nsq ?_
  refine run_cond (t := t48_19) h48 h (fun h => ?_) (fun h => ?_)
  · refine .seq ?_
    refine run_reg ?_
    refine e_end ?_
    refine g_v0 (.bool false) rfl rfl ?_
    refine g_end ?_
    refine e_end ?_
    refine renew [(1, (.ref (.bx 1) 0 [] (.agg [(.int .i64 g_1.1), (Enc.enc (g_1.2 : List (Int × Int)))]))), (2, (.bool false)), (10, (Enc.enc (g_1.2 : List (Int × Int)))), (11, (.int .i64 (g_1.2.length : Int))), (12, (.int .i64 t12_9))] ⟨h1, rfl, h10, h11, h12⟩ ?_
    rintro s ⟨h1, h2, h10, h11, h12⟩
    refine .nsq ?_
    refine .ret ?_
    have hr := Option.some.inj h
    subst hr
    exact rrA (res_tmp h2) rfl
  · refine .skip ?_
    refine .nbk ?_
    refine .nsq ?_
    refine run_reg ?_
    refine e_end ?_
    refine g_v1 (t := 12) (u := (.int .i64 t12_9)) (.int .i64 (w64 (t12_9 + 1))) h12 rfl rfl ?_
    refine g_v1 (t := 49) (u := (.int .i64 (w64 (t12_9 + 1)))) (.int .i64 (w64 (t12_9 + 1))) rfl rfl rfl ?_
    refine g_end ?_
    refine e_end ?_
    refine renew [(1, (.ref (.bx 1) 0 [] (.agg [(.int .i64 g_1.1), (Enc.enc (g_1.2 : List (Int × Int)))]))), (2, (.bool false)), (10, (Enc.enc (g_1.2 : List (Int × Int)))), (11, (.int .i64 (g_1.2.length : Int))), (12, (.int .i64 (w64 (t12_9 + 1))))] ⟨h1, h2, h10, h11, rfl⟩ ?_
    rintro s ⟨h1, h2, h10, h11, h12⟩
    refine .nlp ?_
    exact Hc1 (w64 (t12_9 + 1)) _ ⟨h1, h2, h10, h11, h12⟩ h
def i_IsGraph_l1 (F : Nat) (g_1 : (Int × (List (Int × Int))))  : Nat → Int → Option Bool
  | 0, _ => none
  | k + 1, t12_9 =>
    bif decide (t12_9 < (g_1.2.length : Int)) then
      (idx g_1.2 t12_9).bind fun e_16 =>
      bif decide (e_16.1 < 0) then
        i_IsGraph_j1 F g_1 t12_9 (i_IsGraph_l1 F g_1 k) true
      else
        bif decide (e_16.1 ≥ e_16.2) then
          i_IsGraph_j1 F g_1 t12_9 (i_IsGraph_l1 F g_1 k) true
        else
          bif decide (e_16.2 ≥ g_1.1) then
            i_IsGraph_j1 F g_1 t12_9 (i_IsGraph_l1 F g_1 k) true
          else
            bif decide (t12_9 > 0) then
              (idx g_1.2 (w64 (t12_9 - 1))).bind fun e_20 =>
              (slices_Compare F [e_20.1, e_20.2] [e_16.1, e_16.2]).bind fun r_21 =>
              i_IsGraph_j1 F g_1 t12_9 (i_IsGraph_l1 F g_1 k) (decide (r_21 ≥ 0))
            else
              i_IsGraph_j1 F g_1 t12_9 (i_IsGraph_l1 F g_1 k) false
    else
      some true
theorem t_f51_l1 (H : H51 D σ F) (g_1 : (Int × (List (Int × Int))))  : ∀ (k : Nat) (t12_9 : Int) (s : Nat → V), Facts [(1, (.ref (.bx 1) 0 [] (.agg [(.int .i64 g_1.1), (Enc.enc (g_1.2 : List (Int × Int)))]))), (2, (.bool false)), (10, (Enc.enc (g_1.2 : List (Int × Int)))), (11, (.int .i64 (g_1.2.length : Int))), (12, (.int .i64 t12_9))] s → i_IsGraph_l1 F g_1 k t12_9 = some r → Run D σ (R51 r) (.run A51_1 [.lp A51_1, .bk 0, .sq A51_7]) s := by
  intro k
  induction k with
  | zero => intro t12_9 s _ h; exact nomatch (h : (none : Option _) = some r)
  | succ k ih =>
    intro t12_9 s hs h
    rw [i_IsGraph_l1] at h
    obtain ⟨h1, h2, h10, h11, h12⟩ := hs
    refine .seq ?_
    refine run_reg ?_
    refine e_end ?_
    refine g_v2 (t1 := 12) (t2 := 11) (u1 := (.int .i64 t12_9)) (u2 := (.int .i64 (g_1.2.length : Int))) (.bool (decide (t12_9 < (g_1.2.length : Int)))) h12 h11 rfl rfl ?_
    refine g_end ?_
    refine e_end ?_
    refine renew [(1, (.ref (.bx 1) 0 [] (.agg [(.int .i64 g_1.1), (Enc.enc (g_1.2 : List (Int × Int)))]))), (2, (.bool false)), (10, (Enc.enc (g_1.2 : List (Int × Int)))), (11, (.int .i64 (g_1.2.length : Int))), (12, (.int .i64 t12_9)), (13, (.bool (decide (t12_9 < (g_1.2.length : Int)))))] ⟨h1, h2, h10, h11, h12, rfl⟩ ?_
    rintro s ⟨h1, h2, h10, h11, h12, h13⟩
    refine .nsq ?_
    refine .seq ?_
    refine run_cond (t := decide (t12_9 < (g_1.2.length : Int))) h13 h (fun h => ?_) (fun h => ?_)
    · refine .skip ?_
      refine .nsq ?_
      refine .seq ?_
      refine .block ?_
      refine .seq ?_
      refine run_reg ?_
      refine e_clr ?_
      refine e_end ?_
      refine g_v1 (t := 12) (u := (.int .i64 t12_9)) (.int .i64 t12_9) (keep_clear (s := s) (pk := [4]) h12 rfl rfl) rfl rfl ?_
      obtain ⟨e_16, E_e_16, h⟩ := bind_some h
      refine g_v (.ref .sh 0 [] (.agg [(.int .i64 e_16.1), (.int .i64 e_16.2)])) (ev_idx (t := .sh) (lo := 0) (xs := g_1.2) (keep_clear (s := s) (pk := [4]) h10 rfl (Enc.map_enc _ (g_1.2 : List (Int × Int)))) (keep_clear (s := s) (pk := [4]) h12 rfl rfl) E_e_16 rfl rfl) ?_
      refine g_v1 (t := 15) (u := (.ref .sh 0 [] (.agg [(.int .i64 e_16.1), (.int .i64 e_16.2)]))) (.agg [(.int .i64 e_16.1), (.int .i64 e_16.2)]) rfl rfl rfl ?_
      refine g_alloc (gone_clear (s := s) (pk := [4]) (t := 4) rfl) ?_
      refine g_v1 (t := 14) (u := (.int .i64 t12_9)) (.int .i64 t12_9) rfl rfl rfl ?_
      refine g_store (.agg [(.int .i64 e_16.1), (.int .i64 e_16.2)]) (rd_of rfl rfl) (rd_of rfl rfl) (by refine ⟨by decide, by decide, rfl, rfl, rfl, ?_⟩; first | rfl | simp [V.toks, V.tokss, Enc.toks_enc]) ?_
      refine g_end ?_
      refine e_end ?_
      refine renew [(1, (.ref (.bx 1) 0 [] (.agg [(.int .i64 g_1.1), (Enc.enc (g_1.2 : List (Int × Int)))]))), (2, (.bool false)), (3, (.int .i64 t12_9)), (4, (.ref (.bx 4) 0 [] (.agg [(.int .i64 e_16.1), (.int .i64 e_16.2)]))), (10, (Enc.enc (g_1.2 : List (Int × Int)))), (11, (.int .i64 (g_1.2.length : Int))), (12, (.int .i64 t12_9))] ⟨(keep_mut (keep_clear (s := s) (pk := [4]) h1 rfl (map_bx rfl (map_agg (maps_cons rfl (maps_cons (Enc.map_enc _ (g_1.2 : List (Int × Int))) maps_nil))))) (mut_ref_ne rfl rfl (mut_agg (muts_cons rfl (muts_cons (Enc.mut_enc _ _ _ _ (g_1.2 : List (Int × Int))) rfl))))), (keep_mut (keep_clear (s := s) (pk := [4]) h2 rfl rfl) rfl), (keep_mut rfl rfl), (keep_mut rfl rfl), (keep_mut (keep_clear (s := s) (pk := [4]) h10 rfl (Enc.map_enc _ (g_1.2 : List (Int × Int)))) (Enc.mut_enc _ _ _ _ (g_1.2 : List (Int × Int)))), (keep_mut (keep_clear (s := s) (pk := [4]) h11 rfl rfl) rfl), (keep_mut (keep_clear (s := s) (pk := [4]) h12 rfl rfl) rfl)⟩ ?_
      rintro s ⟨h1, h2, h3, h4, h10, h11, h12⟩
      refine .nsq ?_
      refine .seq ?_
      refine run_reg ?_
      refine e_end ?_
      refine g_v1 (t := 4) (u := (.ref (.bx 4) 0 [] (.agg [(.int .i64 e_16.1), (.int .i64 e_16.2)]))) (.ref (.bx 4) 0 [0] (.int .i64 e_16.1)) h4 rfl rfl ?_
      refine g_v1 (t := 17) (u := (.ref (.bx 4) 0 [0] (.int .i64 e_16.1))) (.int .i64 e_16.1) rfl rfl rfl ?_
      refine g_v1 (t := 18) (u := (.int .i64 e_16.1)) (.bool (decide (e_16.1 < 0))) rfl rfl rfl ?_
      refine g_v1 (t := 19) (u := (.bool (decide (e_16.1 < 0)))) (.bool (decide (e_16.1 < 0))) rfl rfl rfl ?_
      refine split_on (c := decide (e_16.1 < 0)) h (fun hg4 h => ?_) (fun hg4 h => ?_)
      · refine g_no (Eq.trans (b := .bool (decide (e_16.1 < 0))) rfl (congrArg V.bool hg4)) ?_
        refine g_no (Eq.trans (b := .bool (decide (e_16.1 < 0))) rfl (congrArg V.bool hg4)) ?_
        refine g_no (Eq.trans (b := .bool (decide (e_16.1 < 0))) rfl (congrArg V.bool hg4)) ?_
        refine g_no (Eq.trans (b := .bool (decide (e_16.1 < 0))) rfl (congrArg V.bool hg4)) ?_
        refine g_no (Eq.trans (b := .bool (decide (e_16.1 < 0))) rfl (congrArg V.bool hg4)) ?_
        refine g_v2 (t1 := 20) (t2 := 25) (u1 := (.bool true)) (u2 := (.tup [])) (.bool true) (Eq.trans (b := .bool (decide (e_16.1 < 0))) rfl (congrArg V.bool hg4)) rfl rfl rfl ?_
        refine g_v1 (t := 26) (u := (.bool true)) (.bool true) rfl rfl rfl ?_
        refine g_no rfl ?_
        refine g_no rfl ?_
        refine g_no rfl ?_
        refine g_no rfl ?_
        refine g_no rfl ?_
        refine g_v2 (t1 := 27) (t2 := 32) (u1 := (.bool true)) (u2 := (.tup [])) (.bool true) rfl rfl rfl rfl ?_
        refine g_v1 (t := 33) (u := (.bool true)) (.bool true) rfl rfl rfl ?_
        refine g_no rfl ?_
        refine g_no rfl ?_
        refine g_no rfl ?_
        refine g_skip rfl ?_
        refine g_skip rfl ?_
        refine g_skip rfl ?_
        refine g_skip rfl ?_
        refine g_skip rfl ?_
        refine g_skip rfl ?_
        refine g_skip rfl ?_
        refine g_skip rfl ?_
        refine g_skip rfl ?_
        refine g_no rfl ?_
        refine g_v2 (t1 := 34) (t2 := 47) (u1 := (.bool true)) (u2 := (.tup [])) (.bool true) rfl rfl rfl rfl ?_
        refine g_end ?_
        refine e_end ?_
        refine renew [(1, (.ref (.bx 1) 0 [] (.agg [(.int .i64 g_1.1), (Enc.enc (g_1.2 : List (Int × Int)))]))), (2, (.bool false)), (10, (Enc.enc (g_1.2 : List (Int × Int)))), (11, (.int .i64 (g_1.2.length : Int))), (12, (.int .i64 t12_9)), (48, (.bool true))] ⟨h1, h2, h10, h11, h12, rfl⟩ ?_
        rintro s ⟨h1, h2, h10, h11, h12, h48⟩
        exact t_f51_j1 H g_1 t12_9 (i_IsGraph_l1 F g_1 k) ih true _ ⟨h1, h2, h10, h11, h12, h48⟩ h
      · refine g_yes (Eq.trans (b := .bool (decide (e_16.1 < 0))) rfl (congrArg V.bool hg4)) (g_v1 (t := 4) (u := (.ref (.bx 4) 0 [] (.agg [(.int .i64 e_16.1), (.int .i64 e_16.2)]))) (.ref (.bx 4) 0 [0] (.int .i64 e_16.1)) h4 rfl rfl ?_)
        refine g_yes (Eq.trans (b := .bool (decide (e_16.1 < 0))) rfl (congrArg V.bool hg4)) (g_v1 (t := 21) (u := (.ref (.bx 4) 0 [0] (.int .i64 e_16.1))) (.int .i64 e_16.1) rfl rfl rfl ?_)
        refine g_yes (Eq.trans (b := .bool (decide (e_16.1 < 0))) rfl (congrArg V.bool hg4)) (g_v1 (t := 4) (u := (.ref (.bx 4) 0 [] (.agg [(.int .i64 e_16.1), (.int .i64 e_16.2)]))) (.ref (.bx 4) 0 [1] (.int .i64 e_16.2)) h4 rfl rfl ?_)
        refine g_yes (Eq.trans (b := .bool (decide (e_16.1 < 0))) rfl (congrArg V.bool hg4)) (g_v1 (t := 23) (u := (.ref (.bx 4) 0 [1] (.int .i64 e_16.2))) (.int .i64 e_16.2) rfl rfl rfl ?_)
        refine g_yes (Eq.trans (b := .bool (decide (e_16.1 < 0))) rfl (congrArg V.bool hg4)) (g_v2 (t1 := 22) (t2 := 24) (u1 := (.int .i64 e_16.1)) (u2 := (.int .i64 e_16.2)) (.bool (decide (e_16.1 ≥ e_16.2))) rfl rfl rfl rfl ?_)
        refine g_v2 (t1 := 20) (t2 := 25) (u1 := (.bool false)) (u2 := (.bool (decide (e_16.1 ≥ e_16.2)))) (.bool (decide (e_16.1 ≥ e_16.2))) (Eq.trans (b := .bool (decide (e_16.1 < 0))) rfl (congrArg V.bool hg4)) rfl rfl rfl ?_
        refine g_v1 (t := 26) (u := (.bool (decide (e_16.1 ≥ e_16.2)))) (.bool (decide (e_16.1 ≥ e_16.2))) rfl rfl rfl ?_
        refine split_on (c := decide (e_16.1 ≥ e_16.2)) h (fun hg11 h => ?_) (fun hg11 h => ?_)
        · refine g_no (Eq.trans (b := .bool (decide (e_16.1 ≥ e_16.2))) rfl (congrArg V.bool hg11)) ?_
          refine g_no (Eq.trans (b := .bool (decide (e_16.1 ≥ e_16.2))) rfl (congrArg V.bool hg11)) ?_
          refine g_no (Eq.trans (b := .bool (decide (e_16.1 ≥ e_16.2))) rfl (congrArg V.bool hg11)) ?_
          refine g_no (Eq.trans (b := .bool (decide (e_16.1 ≥ e_16.2))) rfl (congrArg V.bool hg11)) ?_
          refine g_no (Eq.trans (b := .bool (decide (e_16.1 ≥ e_16.2))) rfl (congrArg V.bool hg11)) ?_
          refine g_v2 (t1 := 27) (t2 := 32) (u1 := (.bool true)) (u2 := (.tup [])) (.bool true) (Eq.trans (b := .bool (decide (e_16.1 ≥ e_16.2))) rfl (congrArg V.bool hg11)) rfl rfl rfl ?_
          refine g_v1 (t := 33) (u := (.bool true)) (.bool true) rfl rfl rfl ?_
          refine g_no rfl ?_
          refine g_no rfl ?_
          refine g_no rfl ?_
          refine g_skip rfl ?_
          refine g_skip rfl ?_
          refine g_skip rfl ?_
          refine g_skip rfl ?_
          refine g_skip rfl ?_
          refine g_skip rfl ?_
          refine g_skip rfl ?_
          refine g_skip rfl ?_
          refine g_skip rfl ?_
          refine g_no rfl ?_
          refine g_v2 (t1 := 34) (t2 := 47) (u1 := (.bool true)) (u2 := (.tup [])) (.bool true) rfl rfl rfl rfl ?_
          refine g_end ?_
          refine e_end ?_
          refine renew [(1, (.ref (.bx 1) 0 [] (.agg [(.int .i64 g_1.1), (Enc.enc (g_1.2 : List (Int × Int)))]))), (2, (.bool false)), (10, (Enc.enc (g_1.2 : List (Int × Int)))), (11, (.int .i64 (g_1.2.length : Int))), (12, (.int .i64 t12_9)), (48, (.bool true))] ⟨h1, h2, h10, h11, h12, rfl⟩ ?_
          rintro s ⟨h1, h2, h10, h11, h12, h48⟩
          exact t_f51_j1 H g_1 t12_9 (i_IsGraph_l1 F g_1 k) ih true _ ⟨h1, h2, h10, h11, h12, h48⟩ h
        · refine g_yes (Eq.trans (b := .bool (decide (e_16.1 ≥ e_16.2))) rfl (congrArg V.bool hg11)) (g_v1 (t := 4) (u := (.ref (.bx 4) 0 [] (.agg [(.int .i64 e_16.1), (.int .i64 e_16.2)]))) (.ref (.bx 4) 0 [1] (.int .i64 e_16.2)) h4 rfl rfl ?_)
          refine g_yes (Eq.trans (b := .bool (decide (e_16.1 ≥ e_16.2))) rfl (congrArg V.bool hg11)) (g_v1 (t := 28) (u := (.ref (.bx 4) 0 [1] (.int .i64 e_16.2))) (.int .i64 e_16.2) rfl rfl rfl ?_)
          refine g_yes (Eq.trans (b := .bool (decide (e_16.1 ≥ e_16.2))) rfl (congrArg V.bool hg11)) (g_v1 (t := 1) (u := (.ref (.bx 1) 0 [] (.agg [(.int .i64 g_1.1), (Enc.enc (g_1.2 : List (Int × Int)))]))) (.ref (.bx 1) 0 [0] (.int .i64 g_1.1)) h1 rfl rfl ?_)
          refine g_yes (Eq.trans (b := .bool (decide (e_16.1 ≥ e_16.2))) rfl (congrArg V.bool hg11)) (g_v1 (t := 30) (u := (.ref (.bx 1) 0 [0] (.int .i64 g_1.1))) (.int .i64 g_1.1) rfl rfl rfl ?_)
          refine g_yes (Eq.trans (b := .bool (decide (e_16.1 ≥ e_16.2))) rfl (congrArg V.bool hg11)) (g_v2 (t1 := 29) (t2 := 31) (u1 := (.int .i64 e_16.2)) (u2 := (.int .i64 g_1.1)) (.bool (decide (e_16.2 ≥ g_1.1))) rfl rfl rfl rfl ?_)
          refine g_v2 (t1 := 27) (t2 := 32) (u1 := (.bool false)) (u2 := (.bool (decide (e_16.2 ≥ g_1.1)))) (.bool (decide (e_16.2 ≥ g_1.1))) (Eq.trans (b := .bool (decide (e_16.1 ≥ e_16.2))) rfl (congrArg V.bool hg11)) rfl rfl rfl ?_
          refine g_v1 (t := 33) (u := (.bool (decide (e_16.2 ≥ g_1.1)))) (.bool (decide (e_16.2 ≥ g_1.1))) rfl rfl rfl ?_
          refine split_on (c := decide (e_16.2 ≥ g_1.1)) h (fun hg18 h => ?_) (fun hg18 h => ?_)
          · refine g_no (Eq.trans (b := .bool (decide (e_16.2 ≥ g_1.1))) rfl (congrArg V.bool hg18)) ?_
            refine g_no (Eq.trans (b := .bool (decide (e_16.2 ≥ g_1.1))) rfl (congrArg V.bool hg18)) ?_
            refine g_no (Eq.trans (b := .bool (decide (e_16.2 ≥ g_1.1))) rfl (congrArg V.bool hg18)) ?_
            refine g_skip rfl ?_
            refine g_skip rfl ?_
            refine g_skip rfl ?_
            refine g_skip rfl ?_
            refine g_skip rfl ?_
            refine g_skip rfl ?_
            refine g_skip rfl ?_
            refine g_skip rfl ?_
            refine g_skip rfl ?_
            refine g_no (Eq.trans (b := .bool (decide (e_16.2 ≥ g_1.1))) rfl (congrArg V.bool hg18)) ?_
            refine g_v2 (t1 := 34) (t2 := 47) (u1 := (.bool true)) (u2 := (.tup [])) (.bool true) (Eq.trans (b := .bool (decide (e_16.2 ≥ g_1.1))) rfl (congrArg V.bool hg18)) rfl rfl rfl ?_
            refine g_end ?_
            refine e_end ?_
            refine renew [(1, (.ref (.bx 1) 0 [] (.agg [(.int .i64 g_1.1), (Enc.enc (g_1.2 : List (Int × Int)))]))), (2, (.bool false)), (10, (Enc.enc (g_1.2 : List (Int × Int)))), (11, (.int .i64 (g_1.2.length : Int))), (12, (.int .i64 t12_9)), (48, (.bool true))] ⟨h1, h2, h10, h11, h12, rfl⟩ ?_
            rintro s ⟨h1, h2, h10, h11, h12, h48⟩
            exact t_f51_j1 H g_1 t12_9 (i_IsGraph_l1 F g_1 k) ih true _ ⟨h1, h2, h10, h11, h12, h48⟩ h
          · refine g_yes (Eq.trans (b := .bool (decide (e_16.2 ≥ g_1.1))) rfl (congrArg V.bool hg18)) (g_v1 (t := 3) (u := (.int .i64 t12_9)) (.int .i64 t12_9) h3 rfl rfl ?_)
            refine g_yes (Eq.trans (b := .bool (decide (e_16.2 ≥ g_1.1))) rfl (congrArg V.bool hg18)) (g_v1 (t := 35) (u := (.int .i64 t12_9)) (.bool (decide (t12_9 > 0))) rfl rfl rfl ?_)
            refine g_yes (Eq.trans (b := .bool (decide (e_16.2 ≥ g_1.1))) rfl (congrArg V.bool hg18)) (g_v1 (t := 36) (u := (.bool (decide (t12_9 > 0)))) (.bool (decide (t12_9 > 0))) rfl rfl rfl ?_)
            refine split_on (c := decide (t12_9 > 0)) h (fun hg21 h => ?_) (fun hg21 h => ?_)
            · refine g_yes (Eq.trans (b := .bool (decide (t12_9 > 0))) rfl (congrArg V.bool hg21)) (g_v1 (t := 1) (u := (.ref (.bx 1) 0 [] (.agg [(.int .i64 g_1.1), (Enc.enc (g_1.2 : List (Int × Int)))]))) (.ref (.bx 1) 0 [1] (Enc.enc (g_1.2 : List (Int × Int)))) h1 rfl rfl ?_)
              refine g_yes (Eq.trans (b := .bool (decide (t12_9 > 0))) rfl (congrArg V.bool hg21)) (g_v1 (t := 38) (u := (.ref (.bx 1) 0 [1] (Enc.enc (g_1.2 : List (Int × Int))))) (Enc.enc (g_1.2 : List (Int × Int))) rfl rfl rfl ?_)
              refine g_yes (Eq.trans (b := .bool (decide (t12_9 > 0))) rfl (congrArg V.bool hg21)) (g_v1 (t := 3) (u := (.int .i64 t12_9)) (.int .i64 t12_9) h3 rfl rfl ?_)
              refine g_yes (Eq.trans (b := .bool (decide (t12_9 > 0))) rfl (congrArg V.bool hg21)) (g_v1 (t := 40) (u := (.int .i64 t12_9)) (.int .i64 (w64 (t12_9 - 1))) rfl rfl rfl ?_)
              obtain ⟨e_20, E_e_20, h⟩ := bind_some h
              refine g_yes (Eq.trans (b := .bool (decide (t12_9 > 0))) rfl (congrArg V.bool hg21)) (g_v (.ref .sh 0 [] (.agg [(.int .i64 e_20.1), (.int .i64 e_20.2)])) (ev_idx (t := .sh) (lo := 0) (xs := g_1.2) rfl rfl E_e_20 rfl rfl) ?_)
              refine g_yes (Eq.trans (b := .bool (decide (t12_9 > 0))) rfl (congrArg V.bool hg21)) (g_v1 (t := 42) (u := (.ref .sh 0 [] (.agg [(.int .i64 e_20.1), (.int .i64 e_20.2)]))) (Enc.enc ([e_20.1, e_20.2] : List Int)) rfl rfl rfl ?_)
              refine g_yes (Eq.trans (b := .bool (decide (t12_9 > 0))) rfl (congrArg V.bool hg21)) (g_v1 (t := 4) (u := (.ref (.bx 4) 0 [] (.agg [(.int .i64 e_16.1), (.int .i64 e_16.2)]))) (encO (.bx 4) (.of ([e_16.1, e_16.2] : List Int))) h4 rfl rfl ?_)
              obtain ⟨r_21, E_r_21, h⟩ := bind_some h
              refine g_yes (Eq.trans (b := .bool (decide (t12_9 > 0))) rfl (congrArg V.bool hg21)) (g_call (m := 0) (al := false) (r := (Enc.enc (r_21 : Int))) [Enc.enc ([e_20.1, e_20.2] : (List Int)), Enc.enc ([e_16.1, e_16.2] : (List Int))] (ta_cons (v := (Enc.enc ([e_20.1, e_20.2] : List Int))) rfl rfl (Enc.erase_enc ([e_20.1, e_20.2] : (List Int))) (ta_cons (v := (encO (.bx 4) (.of ([e_16.1, e_16.2] : List Int)))) rfl rfl (erase_encO (o := .of [e_16.1, e_16.2])) ta_nil)) (H.c101 _ _ _ E_r_21) H.g101 rfl rfl rfl rfl ?_)
              refine g_yes (Eq.trans (b := .bool (decide (t12_9 > 0))) rfl (congrArg V.bool hg21)) (g_v1 (t := 45) (u := (.int .i64 r_21)) (.bool (decide (r_21 ≥ 0))) rfl rfl rfl ?_)
              refine g_yes (Eq.trans (b := .bool (decide (e_16.2 ≥ g_1.1))) rfl (congrArg V.bool hg18)) (g_v2 (t1 := 37) (t2 := 46) (u1 := (.bool true)) (u2 := (.bool (decide (r_21 ≥ 0)))) (.bool (decide (r_21 ≥ 0))) (Eq.trans (b := .bool (decide (t12_9 > 0))) rfl (congrArg V.bool hg21)) rfl rfl rfl ?_)
              refine g_v2 (t1 := 34) (t2 := 47) (u1 := (.bool false)) (u2 := (.bool (decide (r_21 ≥ 0)))) (.bool (decide (r_21 ≥ 0))) (Eq.trans (b := .bool (decide (e_16.2 ≥ g_1.1))) rfl (congrArg V.bool hg18)) rfl rfl rfl ?_
              refine g_end ?_
              refine e_end ?_
              refine renew [(1, (.ref (.bx 1) 0 [] (.agg [(.int .i64 g_1.1), (Enc.enc (g_1.2 : List (Int × Int)))]))), (2, (.bool false)), (10, (Enc.enc (g_1.2 : List (Int × Int)))), (11, (.int .i64 (g_1.2.length : Int))), (12, (.int .i64 t12_9)), (48, (.bool (decide (r_21 ≥ 0))))] ⟨h1, h2, h10, h11, h12, rfl⟩ ?_
              rintro s ⟨h1, h2, h10, h11, h12, h48⟩
              exact t_f51_j1 H g_1 t12_9 (i_IsGraph_l1 F g_1 k) ih (decide (r_21 ≥ 0)) _ ⟨h1, h2, h10, h11, h12, h48⟩ h
            · refine g_no (Eq.trans (b := .bool (decide (t12_9 > 0))) rfl (congrArg V.bool hg21)) ?_
              refine g_no (Eq.trans (b := .bool (decide (t12_9 > 0))) rfl (congrArg V.bool hg21)) ?_
              refine g_no (Eq.trans (b := .bool (decide (t12_9 > 0))) rfl (congrArg V.bool hg21)) ?_
              refine g_no (Eq.trans (b := .bool (decide (t12_9 > 0))) rfl (congrArg V.bool hg21)) ?_
              refine g_no (Eq.trans (b := .bool (decide (t12_9 > 0))) rfl (congrArg V.bool hg21)) ?_
              refine g_no (Eq.trans (b := .bool (decide (t12_9 > 0))) rfl (congrArg V.bool hg21)) ?_
              refine g_no (Eq.trans (b := .bool (decide (t12_9 > 0))) rfl (congrArg V.bool hg21)) ?_
              refine g_no (Eq.trans (b := .bool (decide (t12_9 > 0))) rfl (congrArg V.bool hg21)) ?_
              refine g_no (Eq.trans (b := .bool (decide (t12_9 > 0))) rfl (congrArg V.bool hg21)) ?_
              refine g_yes (Eq.trans (b := .bool (decide (e_16.2 ≥ g_1.1))) rfl (congrArg V.bool hg18)) (g_v2 (t1 := 37) (t2 := 46) (u1 := (.bool false)) (u2 := (.tup [])) (.bool false) (Eq.trans (b := .bool (decide (t12_9 > 0))) rfl (congrArg V.bool hg21)) rfl rfl rfl ?_)
              refine g_v2 (t1 := 34) (t2 := 47) (u1 := (.bool false)) (u2 := (.bool false)) (.bool false) (Eq.trans (b := .bool (decide (e_16.2 ≥ g_1.1))) rfl (congrArg V.bool hg18)) rfl rfl rfl ?_
              refine g_end ?_
              refine e_end ?_
              refine renew [(1, (.ref (.bx 1) 0 [] (.agg [(.int .i64 g_1.1), (Enc.enc (g_1.2 : List (Int × Int)))]))), (2, (.bool false)), (10, (Enc.enc (g_1.2 : List (Int × Int)))), (11, (.int .i64 (g_1.2.length : Int))), (12, (.int .i64 t12_9)), (48, (.bool false))] ⟨h1, h2, h10, h11, h12, rfl⟩ ?_
              rintro s ⟨h1, h2, h10, h11, h12, h48⟩
              exact t_f51_j1 H g_1 t12_9 (i_IsGraph_l1 F g_1 k) ih false _ ⟨h1, h2, h10, h11, h12, h48⟩ h
    · refine .exit ?_
      refine .esq ?_
      refine .elp ?_
      refine .ebk ?_
      refine .nsq ?_
      refine .seq ?_
      refine run_reg ?_
      refine e_end ?_
      refine g_v0 (.bool true) rfl rfl ?_
      refine g_end ?_
      refine e_end ?_
      refine renew [(2, (.bool true))] rfl ?_
      rintro s h2
      refine .nsq ?_
      refine .ret ?_
      have hr := Option.some.inj h
      subst hr
      exact rrA (res_tmp h2) rfl
def i_IsGraph (F : Nat) (g_1 : (Int × (List (Int × Int)))) : Option Bool :=
  (i_within F g_1.1 0 8).bind fun r_2 =>
  bif (!r_2) then
    some false
  else
    i_IsGraph_l1 F g_1 F 0
theorem t51 (H : H51 D σ F) (g_1 : (Int × (List (Int × Int)))) (s : Nat → V) (hs : Facts [(0, (.agg [(.int .i64 g_1.1), (Enc.enc (g_1.2 : List (Int × Int)))]))] s) (h : i_IsGraph F g_1 = some r) : Run D σ (R51 r) (.run A51 []) s := by
  unfold i_IsGraph at h
  have h0 := hs
  refine .seq ?_
  refine run_reg ?_
  refine e_clr ?_
  refine e_end ?_
  refine g_box (.agg [(.int .i64 g_1.1), (Enc.enc (g_1.2 : List (Int × Int)))]) (rd_of (keep_clear (s := s) (pk := [1]) h0 rfl (map_agg (maps_cons rfl (maps_cons (Enc.map_enc _ (g_1.2 : List (Int × Int))) maps_nil)))) rfl) (gone_clear (s := s) (pk := [1]) (t := 1) rfl) rfl ?_
  refine g_v0 (.bool false) rfl rfl ?_
  refine g_end ?_
  refine e_end ?_
  refine renew [(1, (.ref (.bx 1) 0 [] (.agg [(.int .i64 g_1.1), (Enc.enc (g_1.2 : List (Int × Int)))]))), (2, (.bool false))] ⟨rfl, rfl⟩ ?_
  rintro s ⟨h1, h2⟩
  refine .nsq ?_
  refine .seq ?_
  refine .seq ?_
  refine run_reg ?_
  refine e_end ?_
  refine g_v1 (t := 1) (u := (.ref (.bx 1) 0 [] (.agg [(.int .i64 g_1.1), (Enc.enc (g_1.2 : List (Int × Int)))]))) (.ref (.bx 1) 0 [0] (.int .i64 g_1.1)) h1 rfl rfl ?_
  refine g_v1 (t := 5) (u := (.ref (.bx 1) 0 [0] (.int .i64 g_1.1))) (.int .i64 g_1.1) rfl rfl rfl ?_
  obtain ⟨r_2, E_r_2, h⟩ := bind_some h
  refine g_call (m := 0) (al := false) (r := (Enc.enc (r_2 : Bool))) [Enc.enc (g_1.1 : Int), Enc.enc (0 : Int), Enc.enc (8 : Int)] (ta_cons (v := (.int .i64 g_1.1)) rfl rfl rfl (ta_cons (v := (.int .i64 0)) rfl rfl rfl (ta_cons (v := (.int .i64 8)) rfl rfl rfl ta_nil))) (H.c100 _ _ _ _ E_r_2) H.g100 rfl rfl rfl rfl ?_
  refine g_v1 (t := 7) (u := (.bool r_2)) (.bool (!r_2)) rfl rfl rfl ?_
  refine g_end ?_
  refine e_end ?_
  refine renew [(1, (.ref (.bx 1) 0 [] (.agg [(.int .i64 g_1.1), (Enc.enc (g_1.2 : List (Int × Int)))]))), (2, (.bool false)), (8, (.bool (!r_2)))] ⟨h1, h2, rfl⟩ ?_
  rintro s ⟨h1, h2, h8⟩
  refine .nsq ?_
  refine run_cond (t := (!r_2)) h8 h (fun h => ?_) (fun h => ?_)
  · refine .seq ?_
    refine run_reg ?_
    refine e_end ?_
    refine g_v0 (.bool false) rfl rfl ?_
    refine g_end ?_
    refine e_end ?_
    refine renew [(1, (.ref (.bx 1) 0 [] (.agg [(.int .i64 g_1.1), (Enc.enc (g_1.2 : List (Int × Int)))]))), (2, (.bool false))] ⟨h1, rfl⟩ ?_
    rintro s ⟨h1, h2⟩
    refine .nsq ?_
    refine .ret ?_
    have hr := Option.some.inj h
    subst hr
    exact rrA (res_tmp h2) rfl
  · refine .skip ?_
    refine .nsq ?_
    refine .seq ?_
    refine .seq ?_
    refine run_reg ?_
    refine e_end ?_
    refine g_v1 (t := 1) (u := (.ref (.bx 1) 0 [] (.agg [(.int .i64 g_1.1), (Enc.enc (g_1.2 : List (Int × Int)))]))) (.ref (.bx 1) 0 [1] (Enc.enc (g_1.2 : List (Int × Int)))) h1 rfl rfl ?_
    refine g_v1 (t := 9) (u := (.ref (.bx 1) 0 [1] (Enc.enc (g_1.2 : List (Int × Int))))) (Enc.enc (g_1.2 : List (Int × Int))) rfl rfl rfl ?_
    refine g_v (.int .i64 (g_1.2.length : Int)) (ev_len (xs := g_1.2) rfl) ?_
    refine g_v0 (.int .i64 0) rfl rfl ?_
    refine g_end ?_
    refine e_end ?_
    refine renew [(1, (.ref (.bx 1) 0 [] (.agg [(.int .i64 g_1.1), (Enc.enc (g_1.2 : List (Int × Int)))]))), (2, (.bool false)), (10, (Enc.enc (g_1.2 : List (Int × Int)))), (11, (.int .i64 (g_1.2.length : Int))), (12, (.int .i64 0))] ⟨h1, h2, rfl, rfl, rfl⟩ ?_
    rintro s ⟨h1, h2, h10, h11, h12⟩
    refine .nsq ?_
    refine .block ?_
    refine .loop ?_
    exact t_f51_l1 H g_1 F 0 _ ⟨h1, h2, h10, h11, h12⟩ h
end
def e51 (F : Nat) : Ent := ⟨51, da (fun (x : ((Int × (List (Int × Int))) × Unit)) => i_IsGraph F x.1) (fun (r : Bool) => (Enc.enc (r : Bool))), 0, false, selF []⟩
theorem p51 {F : Nat} {x0 : (Int × (List (Int × Int)))} {r : Bool} (h : i_IsGraph F x0 = some r) : (e51 F).den [Enc.enc x0] = some (Enc.enc (r : Bool)) := da_put (f := fun (x : ((Int × (List (Int × Int))) × Unit)) => i_IsGraph F x.1) (t := fun (r : Bool) => (Enc.enc (r : Bool))) (x0, ()) h
theorem o51 {D : Den} {σ : Sig} {F : Nat} (hF : Fits2 Try.prog D σ) (H : H51 D σ F) : (e51 F).Ok Try.prog := by
  refine ok_of (f := 51) (show unk 51 = 51 from rfl) (fun args r h => ?_) ⟨Try.f51, Try.func51, rfl, rfl⟩
  obtain ⟨⟨x0, _⟩, y, rfl, hy, rfl⟩ := da_open h
  exact contract_run hF (by kernel_rfl) Try.func51 rfl c51 (show 1 ≤ Try.f51.ntmps by decide) (t51 H x0 _ rfl hy)
/- loop.example/g01109/impl.netOf -/
def A52_5 : AC := (AC.reg [] [(I.mk (some 28) none false (X.v (A.fld (O.t 3) 0 0))), (I.mk (some 29) none false (X.v (A.load Sh.p (O.t 28)))), (I.mk (some 30) none false (X.v (A.idxA (O.t 5) (O.k (V.int IntKind.i64 (Int.ofNat 1))) 2 1))), (I.mk (some 31) none false (X.v (A.load Sh.s (O.t 30)))), (I.mk (some 32) none false (X.v (A.idx (O.t 29) (O.t 31) 1))), (I.mk (some 33) none false (X.v (A.load Sh.s (O.t 32)))), (I.mk (some 34) none false (X.v (A.idxA (O.t 5) (O.k (V.int IntKind.i64 (Int.ofNat 0))) 2 1))), (I.mk (some 35) none false (X.v (A.load Sh.s (O.t 34)))), (I.mk (some 36) none false (X.v (A.bin BinOp.shl (O.k (V.int IntKind.i64 (Int.ofNat 1))) (O.t 35)))), (I.mk (some 37) none false (X.v (A.bin BinOp.or (O.t 33) (O.t 36)))), (I.mk (some 38) none false (X.v (A.idx (O.t 29) (O.t 31) 1))), (I.mk none none false (X.store Sh.s (O.t 38) (O.t 37)))] [])
def A52_4 : AC := (AC.seq (AC.reg [] [(I.mk (some 17) none false (X.v (A.fld (O.t 3) 0 0))), (I.mk (some 18) none false (X.v (A.load Sh.p (O.t 17)))), (I.mk (some 19) none false (X.v (A.idxA (O.t 5) (O.k (V.int IntKind.i64 (Int.ofNat 0))) 2 1))), (I.mk (some 20) none false (X.v (A.load Sh.s (O.t 19)))), (I.mk (some 21) none false (X.v (A.idx (O.t 18) (O.t 20) 1))), (I.mk (some 22) none false (X.v (A.load Sh.s (O.t 21)))), (I.mk (some 23) none false (X.v (A.idxA (O.t 5) (O.k (V.int IntKind.i64 (Int.ofNat 1))) 2 1))), (I.mk (some 24) none false (X.v (A.load Sh.s (O.t 23)))), (I.mk (some 25) none false (X.v (A.bin BinOp.shl (O.k (V.int IntKind.i64 (Int.ofNat 1))) (O.t 24)))), (I.mk (some 26) none false (X.v (A.bin BinOp.or (O.t 22) (O.t 25)))), (I.mk (some 27) none false (X.v (A.idx (O.t 18) (O.t 20) 1))), (I.mk none none false (X.store Sh.s (O.t 27) (O.t 26)))] []) A52_5)
def A52_6 : AC := (AC.reg [] [(I.mk (some 39) none false (X.v (A.bin BinOp.add (O.t 13) (O.k (V.int IntKind.i64 (Int.ofNat 1)))))), (I.mk (some 13) none false (X.v (A.mov (O.t 39))))] [])
def A52_3 : AC := (AC.seq (AC.block 1 (AC.seq (AC.reg [.clr [5]] [(I.mk (some 15) none false (X.v (A.idx (O.t 11) (O.t 13) 2))), (I.mk (some 16) none false (X.v (A.load (Sh.ag [Sh.s, Sh.s]) (O.t 15)))), (I.mk (some 5) none false (X.alloc (V.agg [(V.int IntKind.i64 (Int.ofNat 0)), (V.int IntKind.i64 (Int.ofNat 0))]))), (I.mk none none false (X.store (Sh.ag [Sh.s, Sh.s]) (O.t 5) (O.t 16)))] []) A52_4)) A52_6)
def A52_2 : AC := (AC.seq (AC.cond (O.t 14) AC.skip (AC.exit 0)) A52_3)
def A52_1 : AC := (AC.seq (AC.reg [] [(I.mk (some 14) none false (X.v (A.bin BinOp.lss (O.t 13) (O.t 12))))] []) A52_2)
def A52_7 : AC := (AC.seq (AC.reg [] [(I.mk (some 40) none false (X.v (A.load (Sh.ag [Sh.p]) (O.t 3)))), (I.mk none none false (X.store (Sh.ag [Sh.p]) (O.t 2) (O.t 40)))] []) AC.ret)
def A52_10 : AC := (AC.block 0 (AC.loop A52_1))
def A52_9 : AC := (AC.seq (AC.seq (AC.reg [] [(I.mk (some 10) none false (X.v (A.fld (O.t 1) 1 1))), (I.mk (some 11) none false (X.v (A.load Sh.p (O.t 10)))), (I.mk (some 12) none false (X.v (A.len (O.t 11)))), (I.mk (some 13) none false (X.v (A.mov (O.k (V.int IntKind.i64 (Int.ofNat 0))))))] []) A52_10) A52_7)
def A52_8 : AC := (AC.seq (AC.reg [.clr [8, 3]] [(I.mk (some 6) none false (X.v (A.fld (O.t 1) 0 0))), (I.mk (some 7) none false (X.v (A.load Sh.s (O.t 6)))), (I.mk (some 8) none false (X.mk (O.t 7) (V.int IntKind.i64 (Int.ofNat 0)))), (I.mk (some 9) none false (X.v (A.bld (V.agg [(V.sl Tok.nl Sh.s 0 [])]) [(0, 0, (O.t 8))]))), (I.mk (some 3) none false (X.alloc (V.agg [(V.sl Tok.nl Sh.s 0 [])]))), (I.mk none none false (X.store (Sh.ag [Sh.p]) (O.t 3) (O.t 9)))] []) A52_9)
def A52 : AC := (AC.seq (AC.reg [.clr [1, 2]] [(I.mk (some 1) none false (X.box (O.t 0))), (I.mk (some 2) none false (X.alloc (V.agg [(V.sl Tok.nl Sh.s 0 [])])))] []) A52_8)
def an52 : List An := [{ id := 0, pre := [.clr [1, 2]], ep := [], lin := [], sp := [] }, { id := 1, pre := [.clr [8, 3]], ep := [], lin := [], sp := [] }, { id := 4, pre := [.clr [5]], ep := [], lin := [], sp := [] }]
theorem c52 : cC Try.prog Try.f52.ntmps an52 (Try.f52.body.getD .skip) = some A52 := by kernel_rfl
structure H52 (D : Den) (σ : Sig) (F : Nat) : Prop where
  mk ::
abbrev R52 (r : (S1 (List Int))) : (Nat → V) → Prop := RR Try.prog [.cell 2 48] 0 false (Enc.enc (r : (S1 (List Int))))
section
variable {D : Den} {σ : Sig} {F : Nat} {r : (S1 (List Int))}
def i_netOf_l1 (F : Nat) (g_1 : (Int × (List (Int × Int))))  : Nat → (List Int) → Int → Option (S1 (List Int))
  | 0, _, _ => none
  | k + 1, w_10, t13_11 =>
    bif decide (t13_11 < (g_1.2.length : Int)) then
      (idx g_1.2 t13_11).bind fun e_19 =>
      (idx w_10 e_19.1).bind fun e_20 =>
      (shlI .i64 1 e_19.2).bind fun q_21 =>
      (idx w_10 e_19.1).bind fun e_22 =>
      (idx (w_10.set e_19.1.toNat (ior .i64 e_20 q_21)) e_19.2).bind fun e_23 =>
      (shlI .i64 1 e_19.1).bind fun q_24 =>
      (idx (w_10.set e_19.1.toNat (ior .i64 e_20 q_21)) e_19.2).bind fun e_25 =>
      (i_netOf_l1 F g_1 k) ((w_10.set e_19.1.toNat (ior .i64 e_20 q_21)).set e_19.2.toNat (ior .i64 e_23 q_24)) (w64 (t13_11 + 1))
    else
      some (S1.mk w_10)
theorem t_f52_l1 (H : H52 D σ F) (g_1 : (Int × (List (Int × Int))))  : ∀ (k : Nat) (w_10 : (List Int)) (t13_11 : Int) (s : Nat → V), Facts [(2, (.ref (.bx 2) 0 [] (.agg [(.sl .nl (Enc.shp Int) 0 [])]))), (3, (.ref (.bx 3) 0 [] (.agg [(encO (.at 8 []) (.of (w_10 : List Int)))]))), (11, (Enc.enc (g_1.2 : List (Int × Int)))), (12, (.int .i64 (g_1.2.length : Int))), (13, (.int .i64 t13_11))] s → i_netOf_l1 F g_1 k w_10 t13_11 = some r → Run D σ (R52 r) (.run A52_1 [.lp A52_1, .bk 0, .sq A52_7]) s := by
  intro k
  induction k with
  | zero => intro w_10 t13_11 s _ h; exact nomatch (h : (none : Option _) = some r)
  | succ k ih =>
    intro w_10 t13_11 s hs h
    rw [i_netOf_l1] at h
    obtain ⟨h2, h3, h11, h12, h13⟩ := hs
    refine .seq ?_
    refine run_reg ?_
    refine e_end ?_
    refine g_v2 (t1 := 13) (t2 := 12) (u1 := (.int .i64 t13_11)) (u2 := (.int .i64 (g_1.2.length : Int))) (.bool (decide (t13_11 < (g_1.2.length : Int)))) h13 h12 rfl rfl ?_
    refine g_end ?_
    refine e_end ?_
    refine renew [(2, (.ref (.bx 2) 0 [] (.agg [(.sl .nl (Enc.shp Int) 0 [])]))), (3, (.ref (.bx 3) 0 [] (.agg [(encO (.at 8 []) (.of (w_10 : List Int)))]))), (11, (Enc.enc (g_1.2 : List (Int × Int)))), (12, (.int .i64 (g_1.2.length : Int))), (13, (.int .i64 t13_11)), (14, (.bool (decide (t13_11 < (g_1.2.length : Int)))))] ⟨h2, h3, h11, h12, h13, rfl⟩ ?_
    rintro s ⟨h2, h3, h11, h12, h13, h14⟩
    refine .nsq ?_
    refine .seq ?_
    refine run_cond (t := decide (t13_11 < (g_1.2.length : Int))) h14 h (fun h => ?_) (fun h => ?_)
    · refine .skip ?_
      refine .nsq ?_
      refine .seq ?_
      refine .block ?_
      refine .seq ?_
      refine run_reg ?_
      refine e_clr ?_
      refine e_end ?_
      obtain ⟨e_19, E_e_19, h⟩ := bind_some h
      refine g_v (.ref .sh 0 [] (.agg [(.int .i64 e_19.1), (.int .i64 e_19.2)])) (ev_idx (t := .sh) (lo := 0) (xs := g_1.2) (keep_clear (s := s) (pk := [5]) h11 rfl (Enc.map_enc _ (g_1.2 : List (Int × Int)))) (keep_clear (s := s) (pk := [5]) h13 rfl rfl) E_e_19 rfl rfl) ?_
      refine g_v1 (t := 15) (u := (.ref .sh 0 [] (.agg [(.int .i64 e_19.1), (.int .i64 e_19.2)]))) (.agg [(.int .i64 e_19.1), (.int .i64 e_19.2)]) rfl rfl rfl ?_
      refine g_alloc (gone_clear (s := s) (pk := [5]) (t := 5) rfl) ?_
      refine g_store (.agg [(.int .i64 e_19.1), (.int .i64 e_19.2)]) (rd_of rfl rfl) (rd_of rfl rfl) (by refine ⟨by decide, by decide, rfl, rfl, rfl, ?_⟩; first | rfl | simp [V.toks, V.tokss, Enc.toks_enc]) ?_
      refine g_end ?_
      refine e_end ?_
      refine renew [(2, (.ref (.bx 2) 0 [] (.agg [(.sl .nl (Enc.shp Int) 0 [])]))), (3, (.ref (.bx 3) 0 [] (.agg [(encO (.at 8 []) (.of (w_10 : List Int)))]))), (5, (.ref (.bx 5) 0 [] (.agg [(.int .i64 e_19.1), (.int .i64 e_19.2)]))), (11, (Enc.enc (g_1.2 : List (Int × Int)))), (12, (.int .i64 (g_1.2.length : Int))), (13, (.int .i64 t13_11))] ⟨(keep_mut (keep_clear (s := s) (pk := [5]) h2 rfl (map_bx rfl (map_agg (maps_cons rfl maps_nil)))) (mut_ref_ne rfl rfl (mut_agg (muts_cons rfl rfl)))), (keep_mut (keep_clear (s := s) (pk := [5]) h3 rfl (map_bx rfl (map_agg (maps_cons (map_encO (r := 8) (p := []) rfl rfl) maps_nil)))) (mut_ref_ne rfl rfl (mut_agg (muts_cons (mut_own_ne rfl rfl) rfl)))), (keep_mut rfl rfl), (keep_mut (keep_clear (s := s) (pk := [5]) h11 rfl (Enc.map_enc _ (g_1.2 : List (Int × Int)))) (Enc.mut_enc _ _ _ _ (g_1.2 : List (Int × Int)))), (keep_mut (keep_clear (s := s) (pk := [5]) h12 rfl rfl) rfl), (keep_mut (keep_clear (s := s) (pk := [5]) h13 rfl rfl) rfl)⟩ ?_
      rintro s ⟨h2, h3, h5, h11, h12, h13⟩
      refine .nsq ?_
      refine .seq ?_
      refine run_reg ?_
      refine e_end ?_
      refine g_v1 (t := 3) (u := (.ref (.bx 3) 0 [] (.agg [(encO (.at 8 []) (.of (w_10 : List Int)))]))) (.ref (.bx 3) 0 [0] (encO (.at 8 []) (.of (w_10 : List Int)))) h3 rfl rfl ?_
      refine g_v1 (t := 17) (u := (.ref (.bx 3) 0 [0] (encO (.at 8 []) (.of (w_10 : List Int))))) (encO (.at 8 []) (.of (w_10 : List Int))) rfl rfl rfl ?_
      refine g_v1 (t := 5) (u := (.ref (.bx 5) 0 [] (.agg [(.int .i64 e_19.1), (.int .i64 e_19.2)]))) (.ref (.bx 5) 0 [0] (.int .i64 e_19.1)) h5 rfl rfl ?_
      refine g_v1 (t := 19) (u := (.ref (.bx 5) 0 [0] (.int .i64 e_19.1))) (.int .i64 e_19.1) rfl rfl rfl ?_
      obtain ⟨e_20, E_e_20, h⟩ := bind_some h
      refine g_v (.ref (.at 8 []) e_19.1.toNat [] (.int .i64 e_20)) (ev_idxO (o := (.of w_10)) rfl rfl E_e_20 rfl) ?_
      refine g_v1 (t := 21) (u := (.ref (.at 8 []) e_19.1.toNat [] (.int .i64 e_20))) (.int .i64 e_20) rfl rfl rfl ?_
      refine g_v1 (t := 5) (u := (.ref (.bx 5) 0 [] (.agg [(.int .i64 e_19.1), (.int .i64 e_19.2)]))) (.ref (.bx 5) 0 [1] (.int .i64 e_19.2)) h5 rfl rfl ?_
      refine g_v1 (t := 23) (u := (.ref (.bx 5) 0 [1] (.int .i64 e_19.2))) (.int .i64 e_19.2) rfl rfl rfl ?_
      obtain ⟨q_21, E_q_21, h⟩ := bind_some h
      refine g_v (.int .i64 q_21) (ev_shl rfl rfl E_q_21) ?_
      refine g_v2 (t1 := 22) (t2 := 25) (u1 := (.int .i64 e_20)) (u2 := (.int .i64 q_21)) (.int .i64 (ior .i64 e_20 q_21)) rfl rfl rfl rfl ?_
      obtain ⟨e_22, E_e_22, h⟩ := bind_some h
      refine g_v (.ref (.at 8 []) e_19.1.toNat [] (.int .i64 e_22)) (ev_idxO (o := (.of w_10)) rfl rfl E_e_22 rfl) ?_
      refine g_store (.int .i64 (ior .i64 e_20 q_21)) (rd_of rfl rfl) (rd_of rfl rfl) (by refine ⟨by decide, by decide, rfl, rfl, rfl, ?_⟩; first | rfl | simp [V.toks, V.tokss, Enc.toks_enc]) ?_
      refine g_end ?_
      refine e_end ?_
      refine renew [(2, (.ref (.bx 2) 0 [] (.agg [(.sl .nl (Enc.shp Int) 0 [])]))), (3, (.ref (.bx 3) 0 [] (.agg [(encO (.at 8 []) (.of (w_10.set e_19.1.toNat (ior .i64 e_20 q_21) : List Int)))]))), (5, (.ref (.bx 5) 0 [] (.agg [(.int .i64 e_19.1), (.int .i64 e_19.2)]))), (11, (Enc.enc (g_1.2 : List (Int × Int)))), (12, (.int .i64 (g_1.2.length : Int))), (13, (.int .i64 t13_11))] ⟨(keep_mut h2 (mut_ref_ne rfl rfl (mut_agg (muts_cons rfl rfl)))), (keep_mut h3 (mut_ref_ne rfl rfl (mut_agg (muts_cons mut_own rfl)))), (keep_mut h5 rfl), (keep_mut h11 (Enc.mut_enc _ _ _ _ (g_1.2 : List (Int × Int)))), (keep_mut h12 rfl), (keep_mut h13 rfl)⟩ ?_
      rintro s ⟨h2, h3, h5, h11, h12, h13⟩
      refine .nsq ?_
      refine run_reg ?_
      refine e_end ?_
      refine g_v1 (t := 3) (u := (.ref (.bx 3) 0 [] (.agg [(encO (.at 8 []) (.of (w_10.set e_19.1.toNat (ior .i64 e_20 q_21) : List Int)))]))) (.ref (.bx 3) 0 [0] (encO (.at 8 []) (.of (w_10.set e_19.1.toNat (ior .i64 e_20 q_21) : List Int)))) h3 rfl rfl ?_
      refine g_v1 (t := 28) (u := (.ref (.bx 3) 0 [0] (encO (.at 8 []) (.of (w_10.set e_19.1.toNat (ior .i64 e_20 q_21) : List Int))))) (encO (.at 8 []) (.of (w_10.set e_19.1.toNat (ior .i64 e_20 q_21) : List Int))) rfl rfl rfl ?_
      refine g_v1 (t := 5) (u := (.ref (.bx 5) 0 [] (.agg [(.int .i64 e_19.1), (.int .i64 e_19.2)]))) (.ref (.bx 5) 0 [1] (.int .i64 e_19.2)) h5 rfl rfl ?_
      refine g_v1 (t := 30) (u := (.ref (.bx 5) 0 [1] (.int .i64 e_19.2))) (.int .i64 e_19.2) rfl rfl rfl ?_
      obtain ⟨e_23, E_e_23, h⟩ := bind_some h
      refine g_v (.ref (.at 8 []) e_19.2.toNat [] (.int .i64 e_23)) (ev_idxO (o := (.of (w_10.set e_19.1.toNat (ior .i64 e_20 q_21)))) rfl rfl E_e_23 rfl) ?_
      refine g_v1 (t := 32) (u := (.ref (.at 8 []) e_19.2.toNat [] (.int .i64 e_23))) (.int .i64 e_23) rfl rfl rfl ?_
      refine g_v1 (t := 5) (u := (.ref (.bx 5) 0 [] (.agg [(.int .i64 e_19.1), (.int .i64 e_19.2)]))) (.ref (.bx 5) 0 [0] (.int .i64 e_19.1)) h5 rfl rfl ?_
      refine g_v1 (t := 34) (u := (.ref (.bx 5) 0 [0] (.int .i64 e_19.1))) (.int .i64 e_19.1) rfl rfl rfl ?_
      obtain ⟨q_24, E_q_24, h⟩ := bind_some h
      refine g_v (.int .i64 q_24) (ev_shl rfl rfl E_q_24) ?_
      refine g_v2 (t1 := 33) (t2 := 36) (u1 := (.int .i64 e_23)) (u2 := (.int .i64 q_24)) (.int .i64 (ior .i64 e_23 q_24)) rfl rfl rfl rfl ?_
      obtain ⟨e_25, E_e_25, h⟩ := bind_some h
      refine g_v (.ref (.at 8 []) e_19.2.toNat [] (.int .i64 e_25)) (ev_idxO (o := (.of (w_10.set e_19.1.toNat (ior .i64 e_20 q_21)))) rfl rfl E_e_25 rfl) ?_
      refine g_store (.int .i64 (ior .i64 e_23 q_24)) (rd_of rfl rfl) (rd_of rfl rfl) (by refine ⟨by decide, by decide, rfl, rfl, rfl, ?_⟩; first | rfl | simp [V.toks, V.tokss, Enc.toks_enc]) ?_
      refine g_end ?_
      refine e_end ?_
      refine renew [(2, (.ref (.bx 2) 0 [] (.agg [(.sl .nl (Enc.shp Int) 0 [])]))), (3, (.ref (.bx 3) 0 [] (.agg [(encO (.at 8 []) (.of ((w_10.set e_19.1.toNat (ior .i64 e_20 q_21)).set e_19.2.toNat (ior .i64 e_23 q_24) : List Int)))]))), (11, (Enc.enc (g_1.2 : List (Int × Int)))), (12, (.int .i64 (g_1.2.length : Int))), (13, (.int .i64 t13_11))] ⟨(keep_mut h2 (mut_ref_ne rfl rfl (mut_agg (muts_cons rfl rfl)))), (keep_mut h3 (mut_ref_ne rfl rfl (mut_agg (muts_cons mut_own rfl)))), (keep_mut h11 (Enc.mut_enc _ _ _ _ (g_1.2 : List (Int × Int)))), (keep_mut h12 rfl), (keep_mut h13 rfl)⟩ ?_
      rintro s ⟨h2, h3, h11, h12, h13⟩
      refine .nbk ?_
      refine .nsq ?_
      refine run_reg ?_
      refine e_end ?_
      refine g_v1 (t := 13) (u := (.int .i64 t13_11)) (.int .i64 (w64 (t13_11 + 1))) h13 rfl rfl ?_
      refine g_v1 (t := 39) (u := (.int .i64 (w64 (t13_11 + 1)))) (.int .i64 (w64 (t13_11 + 1))) rfl rfl rfl ?_
      refine g_end ?_
      refine e_end ?_
      refine renew [(2, (.ref (.bx 2) 0 [] (.agg [(.sl .nl (Enc.shp Int) 0 [])]))), (3, (.ref (.bx 3) 0 [] (.agg [(encO (.at 8 []) (.of ((w_10.set e_19.1.toNat (ior .i64 e_20 q_21)).set e_19.2.toNat (ior .i64 e_23 q_24) : List Int)))]))), (11, (Enc.enc (g_1.2 : List (Int × Int)))), (12, (.int .i64 (g_1.2.length : Int))), (13, (.int .i64 (w64 (t13_11 + 1))))] ⟨h2, h3, h11, h12, rfl⟩ ?_
      rintro s ⟨h2, h3, h11, h12, h13⟩
      refine .nlp ?_
      exact ih ((w_10.set e_19.1.toNat (ior .i64 e_20 q_21)).set e_19.2.toNat (ior .i64 e_23 q_24)) (w64 (t13_11 + 1)) _ ⟨h2, h3, h11, h12, h13⟩ h
    · refine .exit ?_
      refine .esq ?_
      refine .elp ?_
      refine .ebk ?_
      refine .nsq ?_
      refine .seq ?_
      refine run_reg ?_
      refine e_end ?_
      refine g_v1 (t := 3) (u := (.ref (.bx 3) 0 [] (.agg [(encO (.at 8 []) (.of (w_10 : List Int)))]))) (.agg [(encO (.at 8 []) (.of (w_10 : List Int)))]) h3 rfl rfl ?_
      refine g_store (.agg [(encO (.at 8 []) (.of (w_10 : List Int)))]) (rd_of h2 rfl) (rd_of rfl rfl) (by refine ⟨by decide, by decide, rfl, rfl, rfl, ?_⟩; first | rfl | simp [V.toks, V.tokss, Enc.toks_enc]) ?_
      refine g_end ?_
      refine e_end ?_
      refine renew [(2, (.ref (.bx 2) 0 [] (.agg [(encO (.at 8 []) (.of (w_10 : List Int)))])))] (keep_mut h2 rfl) ?_
      rintro s h2
      refine .nsq ?_
      refine .ret ?_
      have hr := Option.some.inj h
      subst hr
      exact rrA (res_cell h2 (by kernel_rfl)) (fin_retF (fin_agg (fins_cons (fin_own (o := .of w_10)) fins_nil)) (mine_agg (mines_cons (mine_own rfl) mines_nil)))
def i_netOf (F : Nat) (g_1 : (Int × (List (Int × Int)))) : Option (S1 (List Int)) :=
  (mkN g_1.1 (0 : Int)).bind fun mk_2 =>
  i_netOf_l1 F g_1 F mk_2 0
theorem t52 (H : H52 D σ F) (g_1 : (Int × (List (Int × Int)))) (s : Nat → V) (hs : Facts [(0, (.agg [(.int .i64 g_1.1), (Enc.enc (g_1.2 : List (Int × Int)))]))] s) (h : i_netOf F g_1 = some r) : Run D σ (R52 r) (.run A52 []) s := by
  unfold i_netOf at h
  have h0 := hs
  refine .seq ?_
  refine run_reg ?_
  refine e_clr ?_
  refine e_end ?_
  refine g_box (.agg [(.int .i64 g_1.1), (Enc.enc (g_1.2 : List (Int × Int)))]) (rd_of (keep_clear (s := s) (pk := [1, 2]) h0 rfl (map_agg (maps_cons rfl (maps_cons (Enc.map_enc _ (g_1.2 : List (Int × Int))) maps_nil)))) rfl) (gone_clear (s := s) (pk := [1, 2]) (t := 1) rfl) rfl ?_
  refine g_alloc (gone_clear (s := s) (pk := [1, 2]) (t := 2) rfl) ?_
  refine g_end ?_
  refine e_end ?_
  refine renew [(1, (.ref (.bx 1) 0 [] (.agg [(.int .i64 g_1.1), (Enc.enc (g_1.2 : List (Int × Int)))]))), (2, (.ref (.bx 2) 0 [] (.agg [(.sl .nl (Enc.shp Int) 0 [])])))] ⟨rfl, rfl⟩ ?_
  rintro s ⟨h1, h2⟩
  refine .nsq ?_
  refine .seq ?_
  refine run_reg ?_
  refine e_clr ?_
  refine e_end ?_
  refine g_v1 (t := 1) (u := (.ref (.bx 1) 0 [] (.agg [(.int .i64 g_1.1), (Enc.enc (g_1.2 : List (Int × Int)))]))) (.ref (.bx 1) 0 [0] (.int .i64 g_1.1)) (keep_clear (s := s) (pk := [8, 3]) h1 rfl (map_bx rfl (map_agg (maps_cons rfl (maps_cons (Enc.map_enc _ (g_1.2 : List (Int × Int))) maps_nil))))) rfl rfl ?_
  refine g_v1 (t := 6) (u := (.ref (.bx 1) 0 [0] (.int .i64 g_1.1))) (.int .i64 g_1.1) rfl rfl rfl ?_
  obtain ⟨mk_2, E_mk_2, h⟩ := bind_some h
  refine g_mk (0 : Int) rfl rfl (gone_clear (s := s) (pk := [8, 3]) (t := 8) rfl) E_mk_2 ?_
  refine g_v1 (t := 8) (u := (encO (.at 8 []) (.of (mk_2 : List Int)))) (.agg [(encO (.at 8 []) (.of (mk_2 : List Int)))]) rfl rfl rfl ?_
  refine g_alloc (gone_clear (s := s) (pk := [8, 3]) (t := 3) rfl) ?_
  refine g_store (.agg [(encO (.at 8 []) (.of (mk_2 : List Int)))]) (rd_of rfl rfl) (rd_of rfl rfl) (by refine ⟨by decide, by decide, rfl, rfl, rfl, ?_⟩; first | rfl | simp [V.toks, V.tokss, Enc.toks_enc]) ?_
  refine g_end ?_
  refine e_end ?_
  refine renew [(1, (.ref (.bx 1) 0 [] (.agg [(.int .i64 g_1.1), (Enc.enc (g_1.2 : List (Int × Int)))]))), (2, (.ref (.bx 2) 0 [] (.agg [(.sl .nl (Enc.shp Int) 0 [])]))), (3, (.ref (.bx 3) 0 [] (.agg [(encO (.at 8 []) (.of (mk_2 : List Int)))])))] ⟨(keep_mut (keep_clear (s := s) (pk := [8, 3]) h1 rfl (map_bx rfl (map_agg (maps_cons rfl (maps_cons (Enc.map_enc _ (g_1.2 : List (Int × Int))) maps_nil))))) (mut_ref_ne rfl rfl (mut_agg (muts_cons rfl (muts_cons (Enc.mut_enc _ _ _ _ (g_1.2 : List (Int × Int))) rfl))))), (keep_mut (keep_clear (s := s) (pk := [8, 3]) h2 rfl (map_bx rfl (map_agg (maps_cons rfl maps_nil)))) (mut_ref_ne rfl rfl (mut_agg (muts_cons rfl rfl)))), (keep_mut rfl rfl)⟩ ?_
  rintro s ⟨h1, h2, h3⟩
  refine .nsq ?_
  refine .seq ?_
  refine .seq ?_
  refine run_reg ?_
  refine e_end ?_
  refine g_v1 (t := 1) (u := (.ref (.bx 1) 0 [] (.agg [(.int .i64 g_1.1), (Enc.enc (g_1.2 : List (Int × Int)))]))) (.ref (.bx 1) 0 [1] (Enc.enc (g_1.2 : List (Int × Int)))) h1 rfl rfl ?_
  refine g_v1 (t := 10) (u := (.ref (.bx 1) 0 [1] (Enc.enc (g_1.2 : List (Int × Int))))) (Enc.enc (g_1.2 : List (Int × Int))) rfl rfl rfl ?_
  refine g_v (.int .i64 (g_1.2.length : Int)) (ev_len (xs := g_1.2) rfl) ?_
  refine g_v0 (.int .i64 0) rfl rfl ?_
  refine g_end ?_
  refine e_end ?_
  refine renew [(2, (.ref (.bx 2) 0 [] (.agg [(.sl .nl (Enc.shp Int) 0 [])]))), (3, (.ref (.bx 3) 0 [] (.agg [(encO (.at 8 []) (.of (mk_2 : List Int)))]))), (11, (Enc.enc (g_1.2 : List (Int × Int)))), (12, (.int .i64 (g_1.2.length : Int))), (13, (.int .i64 0))] ⟨h2, h3, rfl, rfl, rfl⟩ ?_
  rintro s ⟨h2, h3, h11, h12, h13⟩
  refine .nsq ?_
  refine .block ?_
  refine .loop ?_
  exact t_f52_l1 H g_1 F mk_2 0 _ ⟨h2, h3, h11, h12, h13⟩ h
end
def e52 (F : Nat) : Ent := ⟨52, da (fun (x : ((Int × (List (Int × Int))) × Unit)) => i_netOf F x.1) (fun (r : (S1 (List Int))) => (Enc.enc (r : (S1 (List Int))))), 0, false, selF []⟩
theorem p52 {F : Nat} {x0 : (Int × (List (Int × Int)))} {r : (S1 (List Int))} (h : i_netOf F x0 = some r) : (e52 F).den [Enc.enc x0] = some (Enc.enc (r : (S1 (List Int)))) := da_put (f := fun (x : ((Int × (List (Int × Int))) × Unit)) => i_netOf F x.1) (t := fun (r : (S1 (List Int))) => (Enc.enc (r : (S1 (List Int))))) (x0, ()) h
theorem o52 {D : Den} {σ : Sig} {F : Nat} (hF : Fits2 Try.prog D σ) (H : H52 D σ F) : (e52 F).Ok Try.prog := by
  refine ok_of (f := 52) (show unk 52 = 52 from rfl) (fun args r h => ?_) ⟨Try.f52, Try.func52, rfl, rfl⟩
  obtain ⟨⟨x0, _⟩, y, rfl, hy, rfl⟩ := da_open h
  exact contract_run hF (by kernel_rfl) Try.func52 rfl c52 (show 1 ≤ Try.f52.ntmps by decide) (t52 H x0 _ rfl hy)
/- (loop.example/g01109/impl.net).size -/
def A116_1 : AC := (AC.seq (AC.reg [] [(I.mk (some 3) none false (X.v (A.fld (O.t 1) 0 0))), (I.mk (some 4) none false (X.v (A.load Sh.p (O.t 3)))), (I.mk (some 5) none false (X.v (A.len (O.t 4)))), (I.mk (some 2) none false (X.v (A.mov (O.t 5))))] []) AC.ret)
def A116 : AC := (AC.seq (AC.reg [.clr [1]] [(I.mk (some 1) none false (X.box (O.t 0))), (I.mk (some 2) none false (X.v (A.mov (O.k (V.int IntKind.i64 (Int.ofNat 0))))))] []) A116_1)
def an116 : List An := [{ id := 0, pre := [.clr [1]], ep := [], lin := [], sp := [] }]
theorem c116 : cC Try.prog Try.f116.ntmps an116 (Try.f116.body.getD .skip) = some A116 := by kernel_rfl
structure H116 (D : Den) (σ : Sig) (F : Nat) : Prop where
  mk ::
abbrev R116 (r : Int) : (Nat → V) → Prop := RR Try.prog [.tmp 2] 0 false (Enc.enc (r : Int))
section
variable {D : Den} {σ : Sig} {F : Nat} {r : Int}
def i_net_size (F : Nat) (w_1 : (S1 (List Int))) : Option Int :=
  some (w_1.a.length : Int)
theorem t116 (H : H116 D σ F) (w_1 : (S1 (List Int))) (s : Nat → V) (hs : Facts [(0, (.agg [(Enc.enc (w_1.a : List Int))]))] s) (h : i_net_size F w_1 = some r) : Run D σ (R116 r) (.run A116 []) s := by
  unfold i_net_size at h
  have h0 := hs
  refine .seq ?_
  refine run_reg ?_
  refine e_clr ?_
  refine e_end ?_
  refine g_box (.agg [(Enc.enc (w_1.a : List Int))]) (rd_of (keep_clear (s := s) (pk := [1]) h0 rfl (map_agg (maps_cons (Enc.map_enc _ (w_1.a : List Int)) maps_nil))) rfl) (gone_clear (s := s) (pk := [1]) (t := 1) rfl) rfl ?_
  refine g_v0 (.int .i64 0) rfl rfl ?_
  refine g_end ?_
  refine e_end ?_
  refine renew [(1, (.ref (.bx 1) 0 [] (.agg [(Enc.enc (w_1.a : List Int))]))), (2, (.int .i64 0))] ⟨rfl, rfl⟩ ?_
  rintro s ⟨h1, h2⟩
  refine .nsq ?_
  refine .seq ?_
  refine run_reg ?_
  refine e_end ?_
  refine g_v1 (t := 1) (u := (.ref (.bx 1) 0 [] (.agg [(Enc.enc (w_1.a : List Int))]))) (.ref (.bx 1) 0 [0] (Enc.enc (w_1.a : List Int))) h1 rfl rfl ?_
  refine g_v1 (t := 3) (u := (.ref (.bx 1) 0 [0] (Enc.enc (w_1.a : List Int)))) (Enc.enc (w_1.a : List Int)) rfl rfl rfl ?_
  refine g_v (.int .i64 (w_1.a.length : Int)) (ev_len (xs := w_1.a) rfl) ?_
  refine g_v1 (t := 5) (u := (.int .i64 (w_1.a.length : Int))) (.int .i64 (w_1.a.length : Int)) rfl rfl rfl ?_
  refine g_end ?_
  refine e_end ?_
  refine renew [(2, (.int .i64 (w_1.a.length : Int)))] rfl ?_
  rintro s h2
  refine .nsq ?_
  refine .ret ?_
  have hr := Option.some.inj h
  subst hr
  exact rrA (res_tmp h2) rfl
end
def e116 (F : Nat) : Ent := ⟨116, da (fun (x : ((S1 (List Int)) × Unit)) => i_net_size F x.1) (fun (r : Int) => (Enc.enc (r : Int))), 0, false, selF []⟩
theorem p116 {F : Nat} {x0 : (S1 (List Int))} {r : Int} (h : i_net_size F x0 = some r) : (e116 F).den [Enc.enc x0] = some (Enc.enc (r : Int)) := da_put (f := fun (x : ((S1 (List Int)) × Unit)) => i_net_size F x.1) (t := fun (r : Int) => (Enc.enc (r : Int))) (x0, ()) h
theorem o116 {D : Den} {σ : Sig} {F : Nat} (hF : Fits2 Try.prog D σ) (H : H116 D σ F) : (e116 F).Ok Try.prog := by
  refine ok_of (f := 116) (show unk 116 = 116 from rfl) (fun args r h => ?_) ⟨Try.f116, Try.func116, rfl, rfl⟩
  obtain ⟨⟨x0, _⟩, y, rfl, hy, rfl⟩ := da_open h
  exact contract_run hF (by kernel_rfl) Try.func116 rfl c116 (show 1 ≤ Try.f116.ntmps by decide) (t116 H x0 _ rfl hy)
/- slices.Index[[]int,int] -/
def A125_5 : AC := (AC.cond (O.t 16) (AC.seq (AC.reg [] [(I.mk (some 17) none false (X.v (A.mov (O.t 5)))), (I.mk (some 4) none false (X.v (A.mov (O.t 17))))] []) AC.ret) AC.skip)
def A125_4 : AC := (AC.seq (AC.reg [] [(I.mk (some 11) none false (X.v (A.mov (O.t 1)))), (I.mk (some 12) none false (X.v (A.mov (O.t 0)))), (I.mk (some 13) none false (X.v (A.mov (O.t 5)))), (I.mk (some 14) none false (X.v (A.idx (O.t 12) (O.t 13) 1))), (I.mk (some 15) none false (X.v (A.load Sh.s (O.t 14)))), (I.mk (some 16) none false (X.v (A.bin BinOp.eql (O.t 11) (O.t 15))))] []) A125_5)
def A125_6 : AC := (AC.reg [] [(I.mk (some 18) none false (X.v (A.bin BinOp.add (O.t 8) (O.k (V.int IntKind.i64 (Int.ofNat 1)))))), (I.mk (some 8) none false (X.v (A.mov (O.t 18))))] [])
def A125_3 : AC := (AC.seq (AC.block 1 (AC.seq (AC.reg [] [(I.mk (some 10) none false (X.v (A.mov (O.t 8)))), (I.mk (some 5) none false (X.v (A.mov (O.t 10))))] []) A125_4)) A125_6)
def A125_2 : AC := (AC.seq (AC.cond (O.t 9) AC.skip (AC.exit 0)) A125_3)
def A125_1 : AC := (AC.seq (AC.reg [] [(I.mk (some 9) none false (X.v (A.bin BinOp.lss (O.t 8) (O.t 7))))] []) A125_2)
def A125_7 : AC := (AC.seq (AC.reg [] [(I.mk (some 4) none false (X.v (A.mov (O.k (V.int IntKind.i64 (Int.negSucc 0))))))] []) AC.ret)
def A125_9 : AC := (AC.block 0 (AC.loop A125_1))
def A125_8 : AC := (AC.seq (AC.seq (AC.reg [] [(I.mk (some 6) none false (X.v (A.mov (O.t 0)))), (I.mk (some 7) none false (X.v (A.len (O.t 6)))), (I.mk (some 8) none false (X.v (A.mov (O.k (V.int IntKind.i64 (Int.ofNat 0))))))] []) A125_9) A125_7)
def A125 : AC := (AC.seq (AC.reg [] [(I.mk (some 4) none false (X.v (A.mov (O.k (V.int IntKind.i64 (Int.ofNat 0))))))] []) A125_8)
def an125 : List An := []
theorem c125 : cC Try.prog Try.f125.ntmps an125 (Try.f125.body.getD .skip) = some A125 := by kernel_rfl
structure H125 (D : Den) (σ : Sig) (F : Nat) : Prop where
  mk ::
abbrev R125 (r : Int) : (Nat → V) → Prop := RR Try.prog [.tmp 4] 0 false (Enc.enc (r : Int))
section
variable {D : Den} {σ : Sig} {F : Nat} {r : Int}
def slices_Index_l1 (F : Nat) (s_1 : (List Int)) (v_2 : Int)  : Nat → Int → Option Int
  | 0, _ => none
  | k + 1, t8_4 =>
    bif decide (t8_4 < (s_1.length : Int)) then
      (idx s_1 t8_4).bind fun e_6 =>
      bif (v_2 == e_6) then
        some t8_4
      else
        (slices_Index_l1 F s_1 v_2 k) (w64 (t8_4 + 1))
    else
      some (-1)
theorem t_f125_l1 (H : H125 D σ F) (s_1 : (List Int)) (v_2 : Int)  : ∀ (k : Nat) (t8_4 : Int) (s : Nat → V), Facts [(0, (Enc.enc (s_1 : List Int))), (1, (.int .i64 v_2)), (4, (.int .i64 0)), (7, (.int .i64 (s_1.length : Int))), (8, (.int .i64 t8_4))] s → slices_Index_l1 F s_1 v_2 k t8_4 = some r → Run D σ (R125 r) (.run A125_1 [.lp A125_1, .bk 0, .sq A125_7]) s := by
  intro k
  induction k with
  | zero => intro t8_4 s _ h; exact nomatch (h : (none : Option _) = some r)
  | succ k ih =>
    intro t8_4 s hs h
    rw [slices_Index_l1] at h
    obtain ⟨h0, h1, h4, h7, h8⟩ := hs
    refine .seq ?_
    refine run_reg ?_
    refine e_end ?_
    refine g_v2 (t1 := 8) (t2 := 7) (u1 := (.int .i64 t8_4)) (u2 := (.int .i64 (s_1.length : Int))) (.bool (decide (t8_4 < (s_1.length : Int)))) h8 h7 rfl rfl ?_
    refine g_end ?_
    refine e_end ?_
    refine renew [(0, (Enc.enc (s_1 : List Int))), (1, (.int .i64 v_2)), (4, (.int .i64 0)), (7, (.int .i64 (s_1.length : Int))), (8, (.int .i64 t8_4)), (9, (.bool (decide (t8_4 < (s_1.length : Int)))))] ⟨h0, h1, h4, h7, h8, rfl⟩ ?_
    rintro s ⟨h0, h1, h4, h7, h8, h9⟩
    refine .nsq ?_
    refine .seq ?_
    refine run_cond (t := decide (t8_4 < (s_1.length : Int))) h9 h (fun h => ?_) (fun h => ?_)
    · refine .skip ?_
      refine .nsq ?_
      refine .seq ?_
      refine .block ?_
      refine .seq ?_
      refine run_reg ?_
      refine e_end ?_
      refine g_v1 (t := 8) (u := (.int .i64 t8_4)) (.int .i64 t8_4) h8 rfl rfl ?_
      refine g_v1 (t := 10) (u := (.int .i64 t8_4)) (.int .i64 t8_4) rfl rfl rfl ?_
      refine g_end ?_
      refine e_end ?_
      refine renew [(0, (Enc.enc (s_1 : List Int))), (1, (.int .i64 v_2)), (4, (.int .i64 0)), (5, (.int .i64 t8_4)), (7, (.int .i64 (s_1.length : Int))), (8, (.int .i64 t8_4))] ⟨h0, h1, h4, rfl, h7, h8⟩ ?_
      rintro s ⟨h0, h1, h4, h5, h7, h8⟩
      refine .nsq ?_
      refine .seq ?_
      refine run_reg ?_
      refine e_end ?_
      refine g_v1 (t := 1) (u := (.int .i64 v_2)) (.int .i64 v_2) h1 rfl rfl ?_
      refine g_v1 (t := 0) (u := (Enc.enc (s_1 : List Int))) (Enc.enc (s_1 : List Int)) h0 rfl rfl ?_
      refine g_v1 (t := 5) (u := (.int .i64 t8_4)) (.int .i64 t8_4) h5 rfl rfl ?_
      obtain ⟨e_6, E_e_6, h⟩ := bind_some h
      refine g_v (.ref .sh 0 [] (.int .i64 e_6)) (ev_idx (t := .sh) (lo := 0) (xs := s_1) rfl rfl E_e_6 rfl rfl) ?_
      refine g_v1 (t := 14) (u := (.ref .sh 0 [] (.int .i64 e_6))) (.int .i64 e_6) rfl rfl rfl ?_
      refine g_v2 (t1 := 11) (t2 := 15) (u1 := (.int .i64 v_2)) (u2 := (.int .i64 e_6)) (.bool (v_2 == e_6)) rfl rfl rfl rfl ?_
      refine g_end ?_
      refine e_end ?_
      refine renew [(0, (Enc.enc (s_1 : List Int))), (1, (.int .i64 v_2)), (4, (.int .i64 0)), (5, (.int .i64 t8_4)), (7, (.int .i64 (s_1.length : Int))), (8, (.int .i64 t8_4)), (16, (.bool (v_2 == e_6)))] ⟨h0, h1, h4, h5, h7, h8, rfl⟩ ?_
      rintro s ⟨h0, h1, h4, h5, h7, h8, h16⟩
      refine .nsq ?_
      refine run_cond (t := (v_2 == e_6)) h16 h (fun h => ?_) (fun h => ?_)
      · refine .seq ?_
        refine run_reg ?_
        refine e_end ?_
        refine g_v1 (t := 5) (u := (.int .i64 t8_4)) (.int .i64 t8_4) h5 rfl rfl ?_
        refine g_v1 (t := 17) (u := (.int .i64 t8_4)) (.int .i64 t8_4) rfl rfl rfl ?_
        refine g_end ?_
        refine e_end ?_
        refine renew [(0, (Enc.enc (s_1 : List Int))), (1, (.int .i64 v_2)), (4, (.int .i64 t8_4)), (7, (.int .i64 (s_1.length : Int))), (8, (.int .i64 t8_4))] ⟨h0, h1, rfl, h7, h8⟩ ?_
        rintro s ⟨h0, h1, h4, h7, h8⟩
        refine .nsq ?_
        refine .ret ?_
        have hr := Option.some.inj h
        subst hr
        exact rrA (res_tmp h4) rfl
      · refine .skip ?_
        refine .nbk ?_
        refine .nsq ?_
        refine run_reg ?_
        refine e_end ?_
        refine g_v1 (t := 8) (u := (.int .i64 t8_4)) (.int .i64 (w64 (t8_4 + 1))) h8 rfl rfl ?_
        refine g_v1 (t := 18) (u := (.int .i64 (w64 (t8_4 + 1)))) (.int .i64 (w64 (t8_4 + 1))) rfl rfl rfl ?_
        refine g_end ?_
        refine e_end ?_
        refine renew [(0, (Enc.enc (s_1 : List Int))), (1, (.int .i64 v_2)), (4, (.int .i64 0)), (7, (.int .i64 (s_1.length : Int))), (8, (.int .i64 (w64 (t8_4 + 1))))] ⟨h0, h1, h4, h7, rfl⟩ ?_
        rintro s ⟨h0, h1, h4, h7, h8⟩
        refine .nlp ?_
        exact ih (w64 (t8_4 + 1)) _ ⟨h0, h1, h4, h7, h8⟩ h
    · refine .exit ?_
      refine .esq ?_
      refine .elp ?_
      refine .ebk ?_
      refine .nsq ?_
      refine .seq ?_
      refine run_reg ?_
      refine e_end ?_
      refine g_v0 (.int .i64 (-1)) rfl rfl ?_
      refine g_end ?_
      refine e_end ?_
      refine renew [(4, (.int .i64 (-1)))] rfl ?_
      rintro s h4
      refine .nsq ?_
      refine .ret ?_
      have hr := Option.some.inj h
      subst hr
      exact rrA (res_tmp h4) rfl
def slices_Index (F : Nat) (s_1 : (List Int)) (v_2 : Int) : Option Int :=
  slices_Index_l1 F s_1 v_2 F 0
theorem t125 (H : H125 D σ F) (s_1 : (List Int)) (v_2 : Int) (s : Nat → V) (hs : Facts [(0, (Enc.enc (s_1 : List Int))), (1, (.int .i64 v_2))] s) (h : slices_Index F s_1 v_2 = some r) : Run D σ (R125 r) (.run A125 []) s := by
  unfold slices_Index at h
  obtain ⟨h0, h1⟩ := hs
  refine .seq ?_
  refine run_reg ?_
  refine e_end ?_
  refine g_v0 (.int .i64 0) rfl rfl ?_
  refine g_end ?_
  refine e_end ?_
  refine renew [(0, (Enc.enc (s_1 : List Int))), (1, (.int .i64 v_2)), (4, (.int .i64 0))] ⟨h0, h1, rfl⟩ ?_
  rintro s ⟨h0, h1, h4⟩
  refine .nsq ?_
  refine .seq ?_
  refine .seq ?_
  refine run_reg ?_
  refine e_end ?_
  refine g_v1 (t := 0) (u := (Enc.enc (s_1 : List Int))) (Enc.enc (s_1 : List Int)) h0 rfl rfl ?_
  refine g_v (.int .i64 (s_1.length : Int)) (ev_len (xs := s_1) rfl) ?_
  refine g_v0 (.int .i64 0) rfl rfl ?_
  refine g_end ?_
  refine e_end ?_
  refine renew [(0, (Enc.enc (s_1 : List Int))), (1, (.int .i64 v_2)), (4, (.int .i64 0)), (7, (.int .i64 (s_1.length : Int))), (8, (.int .i64 0))] ⟨h0, h1, h4, rfl, rfl⟩ ?_
  rintro s ⟨h0, h1, h4, h7, h8⟩
  refine .nsq ?_
  refine .block ?_
  refine .loop ?_
  exact t_f125_l1 H s_1 v_2 F 0 _ ⟨h0, h1, h4, h7, h8⟩ h
end
def e125 (F : Nat) : Ent := ⟨125, da (fun (x : ((List Int) × Int × Unit)) => slices_Index F x.1 x.2.1) (fun (r : Int) => (Enc.enc (r : Int))), 0, false, selF []⟩
theorem p125 {F : Nat} {x0 : (List Int)} {x1 : Int} {r : Int} (h : slices_Index F x0 x1 = some r) : (e125 F).den [Enc.enc x0, Enc.enc x1] = some (Enc.enc (r : Int)) := da_put (f := fun (x : ((List Int) × Int × Unit)) => slices_Index F x.1 x.2.1) (t := fun (r : Int) => (Enc.enc (r : Int))) (x0, x1, ()) h
theorem o125 {D : Den} {σ : Sig} {F : Nat} (hF : Fits2 Try.prog D σ) (H : H125 D σ F) : (e125 F).Ok Try.prog := by
  refine ok_of (f := 125) (show unk 125 = 125 from rfl) (fun args r h => ?_) ⟨Try.f125, Try.func125, rfl, rfl⟩
  obtain ⟨⟨x0, x1, _⟩, y, rfl, hy, rfl⟩ := da_open h
  exact contract_run hF (by kernel_rfl) Try.func125 rfl c125 (show 2 ≤ Try.f125.ntmps by decide) (t125 H x0 x1 _ ⟨rfl, rfl⟩ hy)
/- slices.Contains[[]int,int] -/
def A117_1 : AC := (AC.seq (AC.reg [] [(I.mk (some 5) none false (X.v (A.mov (O.t 0)))), (I.mk (some 6) none false (X.v (A.mov (O.t 1)))), (I.mk (some 7) none false (X.call (O.k (V.fn 125 [] [])) [(O.t 5), (O.t 6)])), (I.mk (some 8) none false (X.v (A.bin BinOp.geq (O.t 7) (O.k (V.int IntKind.i64 (Int.ofNat 0)))))), (I.mk (some 4) none false (X.v (A.mov (O.t 8))))] []) AC.ret)
def A117 : AC := (AC.seq (AC.reg [] [(I.mk (some 4) none false (X.v (A.mov (O.k (V.bool false)))))] []) A117_1)
def an117 : List An := []
theorem c117 : cC Try.prog Try.f117.ntmps an117 (Try.f117.body.getD .skip) = some A117 := by kernel_rfl
structure H117 (D : Den) (σ : Sig) (F : Nat) : Prop where
  c125 : ∀ (x0 : (List Int)) (x1 : Int) r, slices_Index F x0 x1 = some r → D 125 [Enc.enc x0, Enc.enc x1] = some (Enc.enc (r : Int))
  g125 : σ 125 = some (0, false)
abbrev R117 (r : Bool) : (Nat → V) → Prop := RR Try.prog [.tmp 4] 0 false (Enc.enc (r : Bool))
section
variable {D : Den} {σ : Sig} {F : Nat} {r : Bool}
def slices_Contains (F : Nat) (s_1 : (List Int)) (v_2 : Int) : Option Bool :=
  (slices_Index F s_1 v_2).bind fun r_3 =>
  some (decide (r_3 ≥ 0))
theorem t117 (H : H117 D σ F) (s_1 : (List Int)) (v_2 : Int) (s : Nat → V) (hs : Facts [(0, (Enc.enc (s_1 : List Int))), (1, (.int .i64 v_2))] s) (h : slices_Contains F s_1 v_2 = some r) : Run D σ (R117 r) (.run A117 []) s := by
  unfold slices_Contains at h
  obtain ⟨h0, h1⟩ := hs
  refine .seq ?_
  refine run_reg ?_
  refine e_end ?_
  refine g_v0 (.bool false) rfl rfl ?_
  refine g_end ?_
  refine e_end ?_
  refine renew [(0, (Enc.enc (s_1 : List Int))), (1, (.int .i64 v_2)), (4, (.bool false))] ⟨h0, h1, rfl⟩ ?_
  rintro s ⟨h0, h1, h4⟩
  refine .nsq ?_
  refine .seq ?_
  refine run_reg ?_
  refine e_end ?_
  refine g_v1 (t := 0) (u := (Enc.enc (s_1 : List Int))) (Enc.enc (s_1 : List Int)) h0 rfl rfl ?_
  refine g_v1 (t := 1) (u := (.int .i64 v_2)) (.int .i64 v_2) h1 rfl rfl ?_
  obtain ⟨r_3, E_r_3, h⟩ := bind_some h
  refine g_call (m := 0) (al := false) (r := (Enc.enc (r_3 : Int))) [Enc.enc (s_1 : (List Int)), Enc.enc (v_2 : Int)] (ta_cons (v := (Enc.enc (s_1 : List Int))) rfl rfl (Enc.erase_enc (s_1 : (List Int))) (ta_cons (v := (.int .i64 v_2)) rfl rfl rfl ta_nil)) (H.c125 _ _ _ E_r_3) H.g125 rfl rfl rfl rfl ?_
  refine g_v1 (t := 7) (u := (.int .i64 r_3)) (.bool (decide (r_3 ≥ 0))) rfl rfl rfl ?_
  refine g_v1 (t := 8) (u := (.bool (decide (r_3 ≥ 0)))) (.bool (decide (r_3 ≥ 0))) rfl rfl rfl ?_
  refine g_end ?_
  refine e_end ?_
  refine renew [(4, (.bool (decide (r_3 ≥ 0))))] rfl ?_
  rintro s h4
  refine .nsq ?_
  refine .ret ?_
  have hr := Option.some.inj h
  subst hr
  exact rrA (res_tmp h4) rfl
end
def e117 (F : Nat) : Ent := ⟨117, da (fun (x : ((List Int) × Int × Unit)) => slices_Contains F x.1 x.2.1) (fun (r : Bool) => (Enc.enc (r : Bool))), 0, false, selF []⟩
theorem p117 {F : Nat} {x0 : (List Int)} {x1 : Int} {r : Bool} (h : slices_Contains F x0 x1 = some r) : (e117 F).den [Enc.enc x0, Enc.enc x1] = some (Enc.enc (r : Bool)) := da_put (f := fun (x : ((List Int) × Int × Unit)) => slices_Contains F x.1 x.2.1) (t := fun (r : Bool) => (Enc.enc (r : Bool))) (x0, x1, ()) h
theorem o117 {D : Den} {σ : Sig} {F : Nat} (hF : Fits2 Try.prog D σ) (H : H117 D σ F) : (e117 F).Ok Try.prog := by
  refine ok_of (f := 117) (show unk 117 = 117 from rfl) (fun args r h => ?_) ⟨Try.f117, Try.func117, rfl, rfl⟩
  obtain ⟨⟨x0, x1, _⟩, y, rfl, hy, rfl⟩ := da_open h
  exact contract_run hF (by kernel_rfl) Try.func117 rfl c117 (show 2 ≤ Try.f117.ntmps by decide) (t117 H x0 x1 _ ⟨rfl, rfl⟩ hy)
/- (loop.example/g01109/impl.net).has -/
def A118_1 : AC := (AC.seq (AC.reg [] [(I.mk (some 7) none false (X.v (A.fld (O.t 3) 0 0))), (I.mk (some 8) none false (X.v (A.load Sh.p (O.t 7)))), (I.mk (some 9) none false (X.v (A.mov (O.t 1)))), (I.mk (some 10) none false (X.v (A.idx (O.t 8) (O.t 9) 1))), (I.mk (some 11) none false (X.v (A.load Sh.s (O.t 10)))), (I.mk (some 12) none false (X.v (A.mov (O.t 2)))), (I.mk (some 13) none false (X.v (A.bin BinOp.shr (O.t 11) (O.t 12)))), (I.mk (some 14) none false (X.v (A.bin BinOp.and (O.t 13) (O.k (V.int IntKind.i64 (Int.ofNat 1)))))), (I.mk (some 15) none false (X.v (A.bin BinOp.eql (O.t 14) (O.k (V.int IntKind.i64 (Int.ofNat 1)))))), (I.mk (some 6) none false (X.v (A.mov (O.t 15))))] []) AC.ret)
def A118 : AC := (AC.seq (AC.reg [.clr [3]] [(I.mk (some 3) none false (X.box (O.t 0))), (I.mk (some 6) none false (X.v (A.mov (O.k (V.bool false)))))] []) A118_1)
def an118 : List An := [{ id := 0, pre := [.clr [3]], ep := [], lin := [], sp := [] }]
theorem c118 : cC Try.prog Try.f118.ntmps an118 (Try.f118.body.getD .skip) = some A118 := by kernel_rfl
structure H118 (D : Den) (σ : Sig) (F : Nat) : Prop where
  mk ::
abbrev R118 (r : Bool) : (Nat → V) → Prop := RR Try.prog [.tmp 6] 0 false (Enc.enc (r : Bool))
section
variable {D : Den} {σ : Sig} {F : Nat} {r : Bool}
def i_net_has (F : Nat) (w_1 : (S1 (List Int))) (x_2 : Int) (y_3 : Int) : Option Bool :=
  (idx w_1.a x_2).bind fun e_4 =>
  (shrI .i64 e_4 y_3).bind fun q_5 =>
  some ((iand .i64 q_5 1) == 1)
theorem t118 (H : H118 D σ F) (w_1 : (S1 (List Int))) (x_2 : Int) (y_3 : Int) (s : Nat → V) (hs : Facts [(0, (.agg [(Enc.enc (w_1.a : List Int))])), (1, (.int .i64 x_2)), (2, (.int .i64 y_3))] s) (h : i_net_has F w_1 x_2 y_3 = some r) : Run D σ (R118 r) (.run A118 []) s := by
  unfold i_net_has at h
  obtain ⟨h0, h1, h2⟩ := hs
  refine .seq ?_
  refine run_reg ?_
  refine e_clr ?_
  refine e_end ?_
  refine g_box (.agg [(Enc.enc (w_1.a : List Int))]) (rd_of (keep_clear (s := s) (pk := [3]) h0 rfl (map_agg (maps_cons (Enc.map_enc _ (w_1.a : List Int)) maps_nil))) rfl) (gone_clear (s := s) (pk := [3]) (t := 3) rfl) rfl ?_
  refine g_v0 (.bool false) rfl rfl ?_
  refine g_end ?_
  refine e_end ?_
  refine renew [(1, (.int .i64 x_2)), (2, (.int .i64 y_3)), (3, (.ref (.bx 3) 0 [] (.agg [(Enc.enc (w_1.a : List Int))]))), (6, (.bool false))] ⟨(keep_clear (s := s) (pk := [3]) h1 rfl rfl), (keep_clear (s := s) (pk := [3]) h2 rfl rfl), rfl, rfl⟩ ?_
  rintro s ⟨h1, h2, h3, h6⟩
  refine .nsq ?_
  refine .seq ?_
  refine run_reg ?_
  refine e_end ?_
  refine g_v1 (t := 3) (u := (.ref (.bx 3) 0 [] (.agg [(Enc.enc (w_1.a : List Int))]))) (.ref (.bx 3) 0 [0] (Enc.enc (w_1.a : List Int))) h3 rfl rfl ?_
  refine g_v1 (t := 7) (u := (.ref (.bx 3) 0 [0] (Enc.enc (w_1.a : List Int)))) (Enc.enc (w_1.a : List Int)) rfl rfl rfl ?_
  refine g_v1 (t := 1) (u := (.int .i64 x_2)) (.int .i64 x_2) h1 rfl rfl ?_
  obtain ⟨e_4, E_e_4, h⟩ := bind_some h
  refine g_v (.ref .sh 0 [] (.int .i64 e_4)) (ev_idx (t := .sh) (lo := 0) (xs := w_1.a) rfl rfl E_e_4 rfl rfl) ?_
  refine g_v1 (t := 10) (u := (.ref .sh 0 [] (.int .i64 e_4))) (.int .i64 e_4) rfl rfl rfl ?_
  refine g_v1 (t := 2) (u := (.int .i64 y_3)) (.int .i64 y_3) h2 rfl rfl ?_
  obtain ⟨q_5, E_q_5, h⟩ := bind_some h
  refine g_v (.int .i64 q_5) (ev_shr rfl rfl E_q_5) ?_
  refine g_v1 (t := 13) (u := (.int .i64 q_5)) (.int .i64 (iand .i64 q_5 1)) rfl rfl rfl ?_
  refine g_v1 (t := 14) (u := (.int .i64 (iand .i64 q_5 1))) (.bool ((iand .i64 q_5 1) == 1)) rfl rfl rfl ?_
  refine g_v1 (t := 15) (u := (.bool ((iand .i64 q_5 1) == 1))) (.bool ((iand .i64 q_5 1) == 1)) rfl rfl rfl ?_
  refine g_end ?_
  refine e_end ?_
  refine renew [(6, (.bool ((iand .i64 q_5 1) == 1)))] rfl ?_
  rintro s h6
  refine .nsq ?_
  refine .ret ?_
  have hr := Option.some.inj h
  subst hr
  exact rrA (res_tmp h6) rfl
end
def e118 (F : Nat) : Ent := ⟨118, da (fun (x : ((S1 (List Int)) × Int × Int × Unit)) => i_net_has F x.1 x.2.1 x.2.2.1) (fun (r : Bool) => (Enc.enc (r : Bool))), 0, false, selF []⟩
theorem p118 {F : Nat} {x0 : (S1 (List Int))} {x1 : Int} {x2 : Int} {r : Bool} (h : i_net_has F x0 x1 x2 = some r) : (e118 F).den [Enc.enc x0, Enc.enc x1, Enc.enc x2] = some (Enc.enc (r : Bool)) := da_put (f := fun (x : ((S1 (List Int)) × Int × Int × Unit)) => i_net_has F x.1 x.2.1 x.2.2.1) (t := fun (r : Bool) => (Enc.enc (r : Bool))) (x0, x1, x2, ()) h
theorem o118 {D : Den} {σ : Sig} {F : Nat} (hF : Fits2 Try.prog D σ) (H : H118 D σ F) : (e118 F).Ok Try.prog := by
  refine ok_of (f := 118) (show unk 118 = 118 from rfl) (fun args r h => ?_) ⟨Try.f118, Try.func118, rfl, rfl⟩
  obtain ⟨⟨x0, x1, x2, _⟩, y, rfl, hy, rfl⟩ := da_open h
  exact contract_run hF (by kernel_rfl) Try.func118 rfl c118 (show 3 ≤ Try.f118.ntmps by decide) (t118 H x0 x1 x2 _ ⟨rfl, rfl, rfl⟩ hy)
/- slices.Clone[[]int,int] -/
shelf_lay Lays2.n15 Nm2 15 at Try as Lay102
structure H102 (D : Den) (σ : Sig) (F : Nat) : Prop where
  mk ::
def slices_Clone (F : Nat) (s_1 : (List Int)) : Option (List Int) :=
  cloneT s_1
def e102 (F : Nat) : Ent := ⟨102, da (fun (x : ((List Int) × Unit)) => slices_Clone F x.1) (fun (r : (List Int)) => (Enc.enc (r : (List Int)))), 0, false, selF []⟩
theorem p102 {F : Nat} {x0 : (List Int)} {r : (List Int)} (h : slices_Clone F x0 = some r) : (e102 F).den [Enc.enc x0] = some (Enc.enc (r : (List Int))) := da_put (f := fun (x : ((List Int) × Unit)) => slices_Clone F x.1) (t := fun (r : (List Int)) => (Enc.enc (r : (List Int)))) (x0, ()) h
theorem o102 {D : Den} {σ : Sig} {F : Nat} (hF : Fits2 Try.prog D σ) (H : H102 D σ F) : (e102 F).Ok Try.prog := by
  refine ok_of (f := 102) (show unk 102 = 102 from rfl) (fun args r h => ?_) ⟨Try.f102, Try.func102, rfl, rfl⟩
  obtain ⟨⟨x0, _⟩, y, rfl, hy, rfl⟩ := da_open h
  exact con_plain (f := 102) (clone_con Lay102 hy) rfl
/- slices.Clone[[]int,int] -/
shelf_lay Lays2.n15 Nm2 15 at Try as Lay102o
structure H102o (D : Den) (σ : Sig) (F : Nat) : Prop where
  mk ::
def slices_Clone_o (F : Nat) (s_1 : (List Int)) : Option (NL Int) :=
  cloneO s_1
def e102o (F : Nat) : Ent := ⟨1000000102, da (fun (x : ((List Int) × Unit)) => slices_Clone_o F x.1) (fun (r : (NL Int)) => (encO .sh (r : NL Int))), 1, false, selF []⟩
theorem p102o {F : Nat} {x0 : (List Int)} {r : (NL Int)} (h : slices_Clone_o F x0 = some r) : (e102o F).den [Enc.enc x0] = some (encO .sh (r : NL Int)) := da_put (f := fun (x : ((List Int) × Unit)) => slices_Clone_o F x.1) (t := fun (r : (NL Int)) => (encO .sh (r : NL Int))) (x0, ()) h
theorem o102o {D : Den} {σ : Sig} {F : Nat} (hF : Fits2 Try.prog D σ) (H : H102o D σ F) : (e102o F).Ok Try.prog := by
  refine ok_of (f := 102) (show unk 1000000102 = 102 from rfl) (fun args r h => ?_) ⟨Try.f102, Try.func102, rfl, rfl⟩
  obtain ⟨⟨x0, _⟩, y, rfl, hy, rfl⟩ := da_open h
  exact con_plain (f := 102) (clone_conO Lay102o hy) rfl
/- (loop.example/g01109/impl.net).narrowLayout -/
def A80_8 : AC := (AC.cond (O.t 37) AC.skip (AC.exit 2))
def A80_10 : AC := (AC.reg [] [(I.mk (some 38) none false (X.v (A.mov (O.t 10)))), (I.mk (some 39) none false (X.v (A.bin BinOp.add (O.t 38) (O.k (V.int IntKind.i64 (Int.ofNat 1)))))), (I.mk (some 10) none false (X.v (A.mov (O.t 39))))] [])
def A80_9 : AC := (AC.seq (AC.block 3 (AC.reg [] [(I.mk (some 40) none false (X.v (A.load (Sh.ag [Sh.p]) (O.t 3)))), (I.mk (some 41) none false (X.v (A.mov (O.t 2)))), (I.mk (some 42) none false (X.v (A.mov (O.t 10)))), (I.mk (some 43) none false (X.v (A.idx (O.t 41) (O.t 42) 1))), (I.mk (some 44) none false (X.v (A.load Sh.s (O.t 43)))), (I.mk (some 45) none false (X.v (A.mov (O.t 8)))), (I.mk (some 46) none false (X.call (O.k (V.fn 118 [] [])) [(O.t 40), (O.t 44), (O.t 45)])), (I.mk (some 47) none false (X.v (A.un UnOp.not (O.t 46)))), (I.mk (some 9) none false (X.v (A.mov (O.t 47))))] [])) A80_10)
def A80_7 : AC := (AC.seq (AC.seq (AC.reg [] [(I.mk (some 29) none false (X.v (A.mov (O.t 10)))), (I.mk (some 30) none false (X.v (A.mov (O.t 2)))), (I.mk (some 31) none false (X.v (A.len (O.t 30)))), (I.mk (some 32) none false (X.v (A.mov (O.t 1)))), (I.mk (some 33) none false (X.v (A.bin BinOp.sub (O.t 31) (O.t 32)))), (I.mk (some 34) none false (X.v (A.bin BinOp.lss (O.t 29) (O.t 33)))), (I.mk (some 35) none false (X.v (A.mov (O.t 34)))), (I.mk (some 36) (some (35, true)) false (X.v (A.mov (O.t 9)))), (I.mk (some 37) none false (X.v (A.pick (O.t 35) (O.t 36) (O.k (V.bool false)))))] []) A80_8) A80_9)
def A80_6 : AC := (AC.block 2 (AC.loop A80_7))
def A80_12 : AC := (AC.cond (O.t 49) (AC.exit 1) AC.skip)
def A80_15 : AC := (AC.cond (O.t 61) (AC.seq (AC.reg [] [(I.mk (some 62) none false (X.v (A.mov (O.t 11)))), (I.mk (some 6) none false (X.v (A.mov (O.t 62)))), (I.mk (some 7) none false (X.v (A.mov (O.k (V.bool true)))))] []) AC.ret) AC.skip)
def A80_14 : AC := (AC.seq (AC.reg [] [(I.mk (some 61) none false (X.v (A.mov (O.t 12))))] []) A80_15)
def A80_13 : AC := (AC.seq (AC.reg [.clr [54, 56, 57]] [(I.mk (some 51) none false (X.v (A.load (Sh.ag [Sh.p]) (O.t 3)))), (I.mk (some 52) none false (X.v (A.mov (O.t 1)))), (I.mk (some 53) none false (X.v (A.mov (O.t 2)))), (I.mk (some 54) none true (X.callO (O.k (V.fn 102 [] [])) [(O.t 53)])), (I.mk (some 55) none false (X.v (A.mov (O.t 8)))), (I.mk (some 56) none false (X.lit (V.int IntKind.i64 (Int.ofNat 0)) 1 [(0, 0, (O.t 55))])), (I.mk (some 57) none true (X.appS Sh.s (O.t 54) (O.t 56))), (I.mk (some 58) none false (X.call (O.k (V.fn 80 [] [])) [(O.t 51), (O.t 52), (O.t 57)])), (I.mk (some 50) none false (X.v (A.mov (O.t 58)))), (I.mk (some 59) none false (X.v (A.ext (O.t 50) 0))), (I.mk (some 60) none false (X.v (A.extS (O.t 50) 1))), (I.mk (some 11) none false (X.v (A.mov (O.t 59)))), (I.mk (some 12) none false (X.v (A.mov (O.t 60))))] []) A80_14)
def A80_11 : AC := (AC.seq (AC.seq (AC.reg [] [(I.mk (some 48) none false (X.v (A.mov (O.t 9)))), (I.mk (some 49) none false (X.v (A.un UnOp.not (O.t 48))))] []) A80_12) A80_13)
def A80_5 : AC := (AC.seq (AC.seq (AC.reg [] [(I.mk (some 10) none false (X.v (A.mov (O.k (V.int IntKind.i64 (Int.ofNat 0))))))] []) A80_6) A80_11)
def A80_4 : AC := (AC.seq (AC.reg [] [(I.mk (some 25) none false (X.v (A.mov (O.t 2)))), (I.mk (some 26) none false (X.v (A.mov (O.t 8)))), (I.mk (some 27) none false (X.call (O.k (V.fn 117 [] [])) [(O.t 25), (O.t 26)])), (I.mk (some 28) none false (X.v (A.un UnOp.not (O.t 27)))), (I.mk (some 9) none false (X.v (A.mov (O.t 28))))] []) A80_5)
def A80_16 : AC := (AC.reg [] [(I.mk (some 63) none false (X.v (A.bin BinOp.add (O.t 22) (O.k (V.int IntKind.i64 (Int.ofNat 1)))))), (I.mk (some 22) none false (X.v (A.mov (O.t 63))))] [])
def A80_3 : AC := (AC.seq (AC.block 1 (AC.seq (AC.reg [] [(I.mk (some 24) none false (X.v (A.mov (O.t 22)))), (I.mk (some 8) none false (X.v (A.mov (O.t 24))))] []) A80_4)) A80_16)
def A80_2 : AC := (AC.seq (AC.cond (O.t 23) AC.skip (AC.exit 0)) A80_3)
def A80_1 : AC := (AC.seq (AC.reg [] [(I.mk (some 23) none false (X.v (A.bin BinOp.lss (O.t 22) (O.t 21))))] []) A80_2)
def A80_17 : AC := (AC.seq (AC.reg [] [(I.mk (some 6) none false (X.v (A.mov (O.k (V.sl Tok.nl Sh.s 0 []))))), (I.mk (some 7) none false (X.v (A.mov (O.k (V.bool false)))))] []) AC.ret)
def A80_19 : AC := (AC.cond (O.t 17) (AC.seq (AC.reg [] [(I.mk (some 18) none false (X.v (A.mov (O.t 2)))), (I.mk (some 6) none false (X.v (A.mov (O.t 18)))), (I.mk (some 7) none false (X.v (A.mov (O.k (V.bool true)))))] []) AC.ret) AC.skip)
def A80_21 : AC := (AC.block 0 (AC.loop A80_1))
def A80_20 : AC := (AC.seq (AC.seq (AC.reg [] [(I.mk (some 19) none false (X.v (A.fld (O.t 3) 0 0))), (I.mk (some 20) none false (X.v (A.load Sh.p (O.t 19)))), (I.mk (some 21) none false (X.v (A.len (O.t 20)))), (I.mk (some 22) none false (X.v (A.mov (O.k (V.int IntKind.i64 (Int.ofNat 0))))))] []) A80_21) A80_17)
def A80_18 : AC := (AC.seq (AC.seq (AC.reg [] [(I.mk (some 13) none false (X.v (A.mov (O.t 2)))), (I.mk (some 14) none false (X.v (A.len (O.t 13)))), (I.mk (some 15) none false (X.v (A.load (Sh.ag [Sh.p]) (O.t 3)))), (I.mk (some 16) none false (X.call (O.k (V.fn 116 [] [])) [(O.t 15)])), (I.mk (some 17) none false (X.v (A.bin BinOp.eql (O.t 14) (O.t 16))))] []) A80_19) A80_20)
def A80 : AC := (AC.seq (AC.reg [.clr [3]] [(I.mk (some 3) none false (X.box (O.t 0))), (I.mk (some 6) none false (X.v (A.mov (O.k (V.sl Tok.nl Sh.s 0 []))))), (I.mk (some 7) none false (X.v (A.mov (O.k (V.bool false)))))] []) A80_18)
def an80 : List An := [{ id := 0, pre := [.clr [3]], ep := [], lin := [], sp := [] }, { id := 12, pre := [.clr [54, 56, 57]], ep := [], lin := [3, 6], sp := [6, 1003] }]
theorem c80 : cC Try.prog Try.f80.ntmps an80 (Try.f80.body.getD .skip) = some A80 := by kernel_rfl
structure H80 (D : Den) (σ : Sig) (F : Nat) (rc : (S1 (List Int)) → Int → (List Int) → Option ((List Int) × Bool)) : Prop where
  c116 : ∀ (x0 : (S1 (List Int))) r, i_net_size F x0 = some r → D 116 [Enc.enc x0] = some (Enc.enc (r : Int))
  g116 : σ 116 = some (0, false)
  c117 : ∀ (x0 : (List Int)) (x1 : Int) r, slices_Contains F x0 x1 = some r → D 117 [Enc.enc x0, Enc.enc x1] = some (Enc.enc (r : Bool))
  g117 : σ 117 = some (0, false)
  c118 : ∀ (x0 : (S1 (List Int))) (x1 : Int) (x2 : Int) r, i_net_has F x0 x1 x2 = some r → D 118 [Enc.enc x0, Enc.enc x1, Enc.enc x2] = some (Enc.enc (r : Bool))
  g118 : σ 118 = some (0, false)
  c102o : ∀ (x0 : (List Int)) r, slices_Clone_o F x0 = some r → D 1000000102 [Enc.enc x0] = some (encO .sh (r : NL Int))
  g102o : σ 1000000102 = some (1, false)
  c80 : ∀ (x0 : (S1 (List Int))) (x1 : Int) (x2 : (List Int)) r, rc x0 x1 x2 = some r → D 80 [Enc.enc x0, Enc.enc x1, Enc.enc x2] = some (.tup [Enc.enc (r.1 : (List Int)), Enc.enc (r.2 : Bool)])
  g80 : σ 80 = some (0, true)
abbrev R80 (r : ((List Int) × Bool)) : (Nat → V) → Prop := RR Try.prog [.tmp 6, .tmp 7] 0 true (.tup [Enc.enc (r.1 : (List Int)), Enc.enc (r.2 : Bool)])
section
variable {D : Den} {σ : Sig} {F : Nat} {rc : (S1 (List Int)) → Int → (List Int) → Option ((List Int) × Bool)} {r : ((List Int) × Bool)}
def i_net_narrowLayout_j1 (F : Nat) (rc : (S1 (List Int)) → Int → (List Int) → Option ((List Int) × Bool)) (width_2 : Int) (order_3 : (List Int)) (w_1 : (S1 (List Int))) (t22_20 : Int) (fits_40 : Bool) (i_41 : Int) (c1 : Int → Option ((List Int) × Bool)) (c4 : Bool → Int → Option ((List Int) × Bool)) (t37_45 : Bool) : Option ((List Int) × Bool) :=
  bif t37_45 then
    (idx order_3 i_41).bind fun e_46 =>
    (i_net_has F w_1 e_46 t22_20).bind fun r_47 =>
    c4 (!r_47) (w64 (i_41 + 1))
  else
    bif (!fits_40) then
      c1 (w64 (t22_20 + 1))
    else
      (slices_Clone_o F order_3).bind fun r_48 =>
      (appL r_48.list [t22_20]).bind fun ap_49 =>
      (rc w_1 width_2 ap_49).bind fun r_50 =>
      bif r_50.2 then
        some (r_50.1, true)
      else
        c1 (w64 (t22_20 + 1))
theorem t_f80_j1 (H : H80 D σ F rc) (width_2 : Int) (order_3 : (List Int)) (w_1 : (S1 (List Int))) (t22_20 : Int) (fits_40 : Bool) (i_41 : Int) (c1 : Int → Option ((List Int) × Bool)) (Hc1 : ∀ (t22_20 : Int) (s : Nat → V), Facts [(1, (.int .i64 width_2)), (2, (Enc.enc (order_3 : List Int))), (3, (.ref (.bx 3) 0 [] (.agg [(Enc.enc (w_1.a : List Int))]))), (6, (.sl .nl (Enc.shp Int) 0 [])), (7, (.bool false)), (21, (.int .i64 (w_1.a.length : Int))), (22, (.int .i64 t22_20))] s → c1 t22_20 = some r → Run D σ (R80 r) (.run A80_1 [.lp A80_1, .bk 0, .sq A80_17]) s) (c4 : Bool → Int → Option ((List Int) × Bool)) (Hc4 : ∀ (fits_40 : Bool) (i_41 : Int) (s : Nat → V), Facts [(1, (.int .i64 width_2)), (2, (Enc.enc (order_3 : List Int))), (3, (.ref (.bx 3) 0 [] (.agg [(Enc.enc (w_1.a : List Int))]))), (6, (.sl .nl (Enc.shp Int) 0 [])), (7, (.bool false)), (8, (.int .i64 t22_20)), (9, (.bool fits_40)), (10, (.int .i64 i_41)), (21, (.int .i64 (w_1.a.length : Int))), (22, (.int .i64 t22_20))] s → c4 fits_40 i_41 = some r → Run D σ (R80 r) (.run A80_7 [.lp A80_7, .bk 2, .sq A80_11, .bk 1, .sq A80_16, .lp A80_1, .bk 0, .sq A80_17]) s) (t37_45 : Bool) (s : Nat → V) (hs : Facts [(1, (.int .i64 width_2)), (2, (Enc.enc (order_3 : List Int))), (3, (.ref (.bx 3) 0 [] (.agg [(Enc.enc (w_1.a : List Int))]))), (6, (.sl .nl (Enc.shp Int) 0 [])), (7, (.bool false)), (8, (.int .i64 t22_20)), (9, (.bool fits_40)), (10, (.int .i64 i_41)), (21, (.int .i64 (w_1.a.length : Int))), (22, (.int .i64 t22_20)), (37, (.bool t37_45))] s) (h : i_net_narrowLayout_j1 F rc width_2 order_3 w_1 t22_20 fits_40 i_41 c1 c4 t37_45 = some r) : Run D σ (R80 r) (.nrm [.sq A80_8, .sq A80_9, .lp A80_7, .bk 2, .sq A80_11, .bk 1, .sq A80_16, .lp A80_1, .bk 0, .sq A80_17]) s := by
  unfold i_net_narrowLayout_j1 at h
  obtain ⟨h1, h2, h3, h6, h7, h8, h9, h10, h21, h22, h37⟩ := hs
  refine .nsq ?_
  refine run_cond (t := t37_45) h37 h (fun h => ?_) (fun h => ?_)
  · refine .skip ?_
    refine .nsq ?_
    refine .seq ?_
    refine .block ?_
    refine run_reg ?_
    refine e_end ?_
    refine g_v1 (t := 3) (u := (.ref (.bx 3) 0 [] (.agg [(Enc.enc (w_1.a : List Int))]))) (.agg [(Enc.enc (w_1.a : List Int))]) h3 rfl rfl ?_
    refine g_v1 (t := 2) (u := (Enc.enc (order_3 : List Int))) (Enc.enc (order_3 : List Int)) h2 rfl rfl ?_
    refine g_v1 (t := 10) (u := (.int .i64 i_41)) (.int .i64 i_41) h10 rfl rfl ?_
    obtain ⟨e_46, E_e_46, h⟩ := bind_some h
    refine g_v (.ref .sh 0 [] (.int .i64 e_46)) (ev_idx (t := .sh) (lo := 0) (xs := order_3) rfl rfl E_e_46 rfl rfl) ?_
    refine g_v1 (t := 43) (u := (.ref .sh 0 [] (.int .i64 e_46))) (.int .i64 e_46) rfl rfl rfl ?_
    refine g_v1 (t := 8) (u := (.int .i64 t22_20)) (.int .i64 t22_20) h8 rfl rfl ?_
    obtain ⟨r_47, E_r_47, h⟩ := bind_some h
    refine g_call (m := 0) (al := false) (r := (Enc.enc (r_47 : Bool))) [Enc.enc (w_1 : (S1 (List Int))), Enc.enc (e_46 : Int), Enc.enc (t22_20 : Int)] (ta_cons (v := (.agg [(Enc.enc (w_1.a : List Int))])) rfl rfl (Enc.erase_enc (w_1 : (S1 (List Int)))) (ta_cons (v := (.int .i64 e_46)) rfl rfl rfl (ta_cons (v := (.int .i64 t22_20)) rfl rfl rfl ta_nil))) (H.c118 _ _ _ _ E_r_47) H.g118 rfl rfl rfl rfl ?_
    refine g_v1 (t := 46) (u := (.bool r_47)) (.bool (!r_47)) rfl rfl rfl ?_
    refine g_v1 (t := 47) (u := (.bool (!r_47))) (.bool (!r_47)) rfl rfl rfl ?_
    refine g_end ?_
    refine e_end ?_
    refine renew [(1, (.int .i64 width_2)), (2, (Enc.enc (order_3 : List Int))), (3, (.ref (.bx 3) 0 [] (.agg [(Enc.enc (w_1.a : List Int))]))), (6, (.sl .nl (Enc.shp Int) 0 [])), (7, (.bool false)), (8, (.int .i64 t22_20)), (9, (.bool (!r_47))), (10, (.int .i64 i_41)), (21, (.int .i64 (w_1.a.length : Int))), (22, (.int .i64 t22_20))] ⟨h1, h2, h3, h6, h7, h8, rfl, h10, h21, h22⟩ ?_
    rintro s ⟨h1, h2, h3, h6, h7, h8, h9, h10, h21, h22⟩
    refine .nbk ?_
    refine .nsq ?_
    refine run_reg ?_
    refine e_end ?_
    refine g_v1 (t := 10) (u := (.int .i64 i_41)) (.int .i64 i_41) h10 rfl rfl ?_
    refine g_v1 (t := 38) (u := (.int .i64 i_41)) (.int .i64 (w64 (i_41 + 1))) rfl rfl rfl ?_
    refine g_v1 (t := 39) (u := (.int .i64 (w64 (i_41 + 1)))) (.int .i64 (w64 (i_41 + 1))) rfl rfl rfl ?_
    refine g_end ?_
    refine e_end ?_
    refine renew [(1, (.int .i64 width_2)), (2, (Enc.enc (order_3 : List Int))), (3, (.ref (.bx 3) 0 [] (.agg [(Enc.enc (w_1.a : List Int))]))), (6, (.sl .nl (Enc.shp Int) 0 [])), (7, (.bool false)), (8, (.int .i64 t22_20)), (9, (.bool (!r_47))), (10, (.int .i64 (w64 (i_41 + 1)))), (21, (.int .i64 (w_1.a.length : Int))), (22, (.int .i64 t22_20))] ⟨h1, h2, h3, h6, h7, h8, h9, rfl, h21, h22⟩ ?_
    rintro s ⟨h1, h2, h3, h6, h7, h8, h9, h10, h21, h22⟩
    refine .nlp ?_
    exact Hc4 (!r_47) (w64 (i_41 + 1)) _ ⟨h1, h2, h3, h6, h7, h8, h9, h10, h21, h22⟩ h
  · refine .exit ?_
    refine .esq ?_
    refine .elp ?_
    refine .ebk ?_
    refine .nsq ?_
    refine .seq ?_
    refine .seq ?_
    refine run_reg ?_
    refine e_end ?_
    refine g_v1 (t := 9) (u := (.bool fits_40)) (.bool fits_40) h9 rfl rfl ?_
    refine g_v1 (t := 48) (u := (.bool fits_40)) (.bool (!fits_40)) rfl rfl rfl ?_
    refine g_end ?_
    refine e_end ?_
    refine renew [(1, (.int .i64 width_2)), (2, (Enc.enc (order_3 : List Int))), (3, (.ref (.bx 3) 0 [] (.agg [(Enc.enc (w_1.a : List Int))]))), (6, (.sl .nl (Enc.shp Int) 0 [])), (7, (.bool false)), (8, (.int .i64 t22_20)), (21, (.int .i64 (w_1.a.length : Int))), (22, (.int .i64 t22_20)), (49, (.bool (!fits_40)))] ⟨h1, h2, h3, h6, h7, h8, h21, h22, rfl⟩ ?_
    rintro s ⟨h1, h2, h3, h6, h7, h8, h21, h22, h49⟩
    refine .nsq ?_
    refine run_cond (t := (!fits_40)) h49 h (fun h => ?_) (fun h => ?_)
    · refine .exit ?_
      refine .esq ?_
      refine .ebk ?_
      refine .nsq ?_
      refine run_reg ?_
      refine e_end ?_
      refine g_v1 (t := 22) (u := (.int .i64 t22_20)) (.int .i64 (w64 (t22_20 + 1))) h22 rfl rfl ?_
      refine g_v1 (t := 63) (u := (.int .i64 (w64 (t22_20 + 1)))) (.int .i64 (w64 (t22_20 + 1))) rfl rfl rfl ?_
      refine g_end ?_
      refine e_end ?_
      refine renew [(1, (.int .i64 width_2)), (2, (Enc.enc (order_3 : List Int))), (3, (.ref (.bx 3) 0 [] (.agg [(Enc.enc (w_1.a : List Int))]))), (6, (.sl .nl (Enc.shp Int) 0 [])), (7, (.bool false)), (21, (.int .i64 (w_1.a.length : Int))), (22, (.int .i64 (w64 (t22_20 + 1))))] ⟨h1, h2, h3, h6, h7, h21, rfl⟩ ?_
      rintro s ⟨h1, h2, h3, h6, h7, h21, h22⟩
      refine .nlp ?_
      exact Hc1 (w64 (t22_20 + 1)) _ ⟨h1, h2, h3, h6, h7, h21, h22⟩ h
    · refine .skip ?_
      refine .nsq ?_
      refine .seq ?_
      refine run_reg ?_
      refine e_clr ?_
      refine e_end ?_
      refine g_v1 (t := 3) (u := (.ref (.bx 3) 0 [] (.agg [(Enc.enc (w_1.a : List Int))]))) (.agg [(Enc.enc (w_1.a : List Int))]) (keep_clear (s := s) (pk := [54, 56, 57]) h3 rfl (map_bx rfl (map_agg (maps_cons (Enc.map_enc _ (w_1.a : List Int)) maps_nil)))) rfl rfl ?_
      refine g_v1 (t := 1) (u := (.int .i64 width_2)) (.int .i64 width_2) (keep_clear (s := s) (pk := [54, 56, 57]) h1 rfl rfl) rfl rfl ?_
      refine g_v1 (t := 2) (u := (Enc.enc (order_3 : List Int))) (Enc.enc (order_3 : List Int)) (keep_clear (s := s) (pk := [54, 56, 57]) h2 rfl (Enc.map_enc _ (order_3 : List Int))) rfl rfl ?_
      obtain ⟨r_48, E_r_48, h⟩ := bind_some h
      refine g_callOl (m := 1) (al := false) (r := (encO .sh (r_48 : NL Int))) (o := (r_48 : NL Int)) (kk := 1000000102) [Enc.enc (order_3 : (List Int))] (ta_cons (v := (Enc.enc (order_3 : List Int))) rfl rfl (Enc.erase_enc (order_3 : (List Int))) ta_nil) (H.c102o _ _ E_r_48) H.g102o rfl toks_encS tag_encO (gone_clear (s := s) (pk := [54, 56, 57]) (t := 54) rfl) ?_
      refine g_v1 (t := 8) (u := (.int .i64 t22_20)) (.int .i64 t22_20) (keep_clear (s := s) (pk := [54, 56, 57]) h8 rfl rfl) rfl rfl ?_
      refine g_litL [(55, (.int .i64 t22_20))] [Enc.enc (t22_20 : Int)] rfl rfl rfl (gone_clear (s := s) (pk := [54, 56, 57]) (t := 56) rfl) ?_
      obtain ⟨ap_49, E_ap_49, h⟩ := bind_some h
      refine g_appSO (o := (r_48 : NL Int)) (ys := ([t22_20] : List Int)) (t2 := (.at 56 [])) (lo2 := 0) rfl rfl rfl (gone_clear (s := s) (pk := [54, 56, 57]) (t := 57) rfl) (by simp) E_ap_49 (fun s_7 hl_7 => ?_)
      obtain ⟨r_50, E_r_50, h⟩ := bind_some h
      refine g_callS (rl := 57) (m := 0) (al := true) (r := (.tup [Enc.enc (r_50.1 : (List Int)), Enc.enc (r_50.2 : Bool)])) [Enc.enc (w_1 : (S1 (List Int))), Enc.enc (width_2 : Int), Enc.enc (ap_49 : (List Int))] (by exact (ta_cons (v := (.agg [(Enc.enc (w_1.a : List Int))])) (show s_7 51 = (.agg [(Enc.enc (w_1.a : List Int))]) from (hl_7 51 (by decide)).trans rfl) rfl (Enc.erase_enc (w_1 : (S1 (List Int)))) (ta_cons (v := (.int .i64 width_2)) (show s_7 52 = (.int .i64 width_2) from (hl_7 52 (by decide)).trans rfl) rfl rfl (ta_lin (r := 57) (v := (encO (.at 57 []) (.of (ap_49 : List Int)))) rfl (erase_encO (o := .of ap_49)) ta_nil)))) (H.c80 _ _ _ _ E_r_50) H.g80 (by exact (hal_of (ht_cons (v := (.agg [(Enc.enc (w_1.a : List Int))])) (show s_7 51 = (.agg [(Enc.enc (w_1.a : List Int))]) from (hl_7 51 (by decide)).trans rfl) rfl rfl (ht_cons (v := (.int .i64 width_2)) (show s_7 52 = (.int .i64 width_2) from (hl_7 52 (by decide)).trans rfl) rfl rfl (ht_lin (r := 57) (o := (.of ap_49 : NL Int)) rfl ht_nil))))) rfl rfl rfl ?_
      refine g_v1 (t := 58) (u := (.tup [(Enc.enc (r_50.1 : List Int)), (.bool r_50.2)])) (.tup [(Enc.enc (r_50.1 : List Int)), (.bool r_50.2)]) rfl rfl rfl ?_
      refine g_v1 (t := 50) (u := (.tup [(Enc.enc (r_50.1 : List Int)), (.bool r_50.2)])) (Enc.enc (r_50.1 : List Int)) rfl rfl rfl ?_
      refine g_v1 (t := 50) (u := (.tup [(Enc.enc (r_50.1 : List Int)), (.bool r_50.2)])) (.bool r_50.2) rfl rfl rfl ?_
      refine g_v1 (t := 59) (u := (Enc.enc (r_50.1 : List Int))) (Enc.enc (r_50.1 : List Int)) rfl rfl rfl ?_
      refine g_v1 (t := 60) (u := (.bool r_50.2)) (.bool r_50.2) rfl rfl rfl ?_
      refine g_end ?_
      refine e_end ?_
      refine renew [(1, (.int .i64 width_2)), (2, (Enc.enc (order_3 : List Int))), (3, (.ref (.bx 3) 0 [] (.agg [(Enc.enc (w_1.a : List Int))]))), (6, (.sl .nl (Enc.shp Int) 0 [])), (7, (.bool false)), (11, (Enc.enc (r_50.1 : List Int))), (12, (.bool r_50.2)), (21, (.int .i64 (w_1.a.length : Int))), (22, (.int .i64 t22_20))] ⟨(show s_7 1 = (.int .i64 width_2) from (hl_7 1 (by decide)).trans (keep_clear (s := s) (pk := [54, 56, 57]) h1 rfl rfl)), (show s_7 2 = (Enc.enc (order_3 : List Int)) from (hl_7 2 (by decide)).trans (keep_clear (s := s) (pk := [54, 56, 57]) h2 rfl (Enc.map_enc _ (order_3 : List Int)))), (show s_7 3 = (.ref (.bx 3) 0 [] (.agg [(Enc.enc (w_1.a : List Int))])) from (hl_7 3 (by decide)).trans (keep_clear (s := s) (pk := [54, 56, 57]) h3 rfl (map_bx rfl (map_agg (maps_cons (Enc.map_enc _ (w_1.a : List Int)) maps_nil))))), (show s_7 6 = (.sl .nl (Enc.shp Int) 0 []) from (hl_7 6 (by decide)).trans (keep_clear (s := s) (pk := [54, 56, 57]) h6 rfl rfl)), (show s_7 7 = (.bool false) from (hl_7 7 (by decide)).trans (keep_clear (s := s) (pk := [54, 56, 57]) h7 rfl rfl)), rfl, rfl, (show s_7 21 = (.int .i64 (w_1.a.length : Int)) from (hl_7 21 (by decide)).trans (keep_clear (s := s) (pk := [54, 56, 57]) h21 rfl rfl)), (show s_7 22 = (.int .i64 t22_20) from (hl_7 22 (by decide)).trans (keep_clear (s := s) (pk := [54, 56, 57]) h22 rfl rfl))⟩ ?_
      rintro s ⟨h1, h2, h3, h6, h7, h11, h12, h21, h22⟩
      refine .nsq ?_
      refine .seq ?_
      refine run_reg ?_
      refine e_end ?_
      refine g_v1 (t := 12) (u := (.bool r_50.2)) (.bool r_50.2) h12 rfl rfl ?_
      refine g_end ?_
      refine e_end ?_
      refine renew [(1, (.int .i64 width_2)), (2, (Enc.enc (order_3 : List Int))), (3, (.ref (.bx 3) 0 [] (.agg [(Enc.enc (w_1.a : List Int))]))), (6, (.sl .nl (Enc.shp Int) 0 [])), (7, (.bool false)), (11, (Enc.enc (r_50.1 : List Int))), (21, (.int .i64 (w_1.a.length : Int))), (22, (.int .i64 t22_20)), (61, (.bool r_50.2))] ⟨h1, h2, h3, h6, h7, h11, h21, h22, rfl⟩ ?_
      rintro s ⟨h1, h2, h3, h6, h7, h11, h21, h22, h61⟩
      refine .nsq ?_
      refine run_cond (t := r_50.2) h61 h (fun h => ?_) (fun h => ?_)
      · refine .seq ?_
        refine run_reg ?_
        refine e_end ?_
        refine g_v1 (t := 11) (u := (Enc.enc (r_50.1 : List Int))) (Enc.enc (r_50.1 : List Int)) h11 rfl rfl ?_
        refine g_v1 (t := 62) (u := (Enc.enc (r_50.1 : List Int))) (Enc.enc (r_50.1 : List Int)) rfl rfl rfl ?_
        refine g_v0 (.bool true) rfl rfl ?_
        refine g_end ?_
        refine e_end ?_
        refine renew [(1, (.int .i64 width_2)), (2, (Enc.enc (order_3 : List Int))), (3, (.ref (.bx 3) 0 [] (.agg [(Enc.enc (w_1.a : List Int))]))), (6, (Enc.enc (r_50.1 : List Int))), (7, (.bool true)), (21, (.int .i64 (w_1.a.length : Int))), (22, (.int .i64 t22_20))] ⟨h1, h2, h3, rfl, rfl, h21, h22⟩ ?_
        rintro s ⟨h1, h2, h3, h6, h7, h21, h22⟩
        refine .nsq ?_
        refine .ret ?_
        have hr := Option.some.inj h
        subst hr
        exact rrB (res_tmp h6) (res_tmp h7) (fin_ret1 (fin_tup (fins_cons (fin_enc (x := (r_50.1 : (List Int)))) (fins_cons (fin_enc (x := (true : Bool))) fins_nil))))
      · refine .skip ?_
        refine .nbk ?_
        refine .nsq ?_
        refine run_reg ?_
        refine e_end ?_
        refine g_v1 (t := 22) (u := (.int .i64 t22_20)) (.int .i64 (w64 (t22_20 + 1))) h22 rfl rfl ?_
        refine g_v1 (t := 63) (u := (.int .i64 (w64 (t22_20 + 1)))) (.int .i64 (w64 (t22_20 + 1))) rfl rfl rfl ?_
        refine g_end ?_
        refine e_end ?_
        refine renew [(1, (.int .i64 width_2)), (2, (Enc.enc (order_3 : List Int))), (3, (.ref (.bx 3) 0 [] (.agg [(Enc.enc (w_1.a : List Int))]))), (6, (.sl .nl (Enc.shp Int) 0 [])), (7, (.bool false)), (21, (.int .i64 (w_1.a.length : Int))), (22, (.int .i64 (w64 (t22_20 + 1))))] ⟨h1, h2, h3, h6, h7, h21, rfl⟩ ?_
        rintro s ⟨h1, h2, h3, h6, h7, h21, h22⟩
        refine .nlp ?_
        exact Hc1 (w64 (t22_20 + 1)) _ ⟨h1, h2, h3, h6, h7, h21, h22⟩ h
def i_net_narrowLayout_l1 (F : Nat) (rc : (S1 (List Int)) → Int → (List Int) → Option ((List Int) × Bool)) (width_2 : Int) (order_3 : (List Int)) (w_1 : (S1 (List Int))) (t22_20 : Int) (c1 : Int → Option ((List Int) × Bool)) : Nat → Bool → Int → Option ((List Int) × Bool)
  | 0, _, _ => none
  | k + 1, fits_40, i_41 =>
    bif decide (i_41 < (w64 ((order_3.length : Int) - width_2))) then
      i_net_narrowLayout_j1 F rc width_2 order_3 w_1 t22_20 fits_40 i_41 c1 (i_net_narrowLayout_l1 F rc width_2 order_3 w_1 t22_20 c1 k) fits_40
    else
      i_net_narrowLayout_j1 F rc width_2 order_3 w_1 t22_20 fits_40 i_41 c1 (i_net_narrowLayout_l1 F rc width_2 order_3 w_1 t22_20 c1 k) false
theorem t_f80_l1 (H : H80 D σ F rc) (width_2 : Int) (order_3 : (List Int)) (w_1 : (S1 (List Int))) (t22_20 : Int) (c1 : Int → Option ((List Int) × Bool)) (Hc1 : ∀ (t22_20 : Int) (s : Nat → V), Facts [(1, (.int .i64 width_2)), (2, (Enc.enc (order_3 : List Int))), (3, (.ref (.bx 3) 0 [] (.agg [(Enc.enc (w_1.a : List Int))]))), (6, (.sl .nl (Enc.shp Int) 0 [])), (7, (.bool false)), (21, (.int .i64 (w_1.a.length : Int))), (22, (.int .i64 t22_20))] s → c1 t22_20 = some r → Run D σ (R80 r) (.run A80_1 [.lp A80_1, .bk 0, .sq A80_17]) s) : ∀ (k : Nat) (fits_40 : Bool) (i_41 : Int) (s : Nat → V), Facts [(1, (.int .i64 width_2)), (2, (Enc.enc (order_3 : List Int))), (3, (.ref (.bx 3) 0 [] (.agg [(Enc.enc (w_1.a : List Int))]))), (6, (.sl .nl (Enc.shp Int) 0 [])), (7, (.bool false)), (8, (.int .i64 t22_20)), (9, (.bool fits_40)), (10, (.int .i64 i_41)), (21, (.int .i64 (w_1.a.length : Int))), (22, (.int .i64 t22_20))] s → i_net_narrowLayout_l1 F rc width_2 order_3 w_1 t22_20 c1 k fits_40 i_41 = some r → Run D σ (R80 r) (.run A80_7 [.lp A80_7, .bk 2, .sq A80_11, .bk 1, .sq A80_16, .lp A80_1, .bk 0, .sq A80_17]) s := by
  intro k
  induction k with
  | zero => intro fits_40 i_41 s _ h; exact nomatch (h : (none : Option _) = some r)
  | succ k ih =>
    intro fits_40 i_41 s hs h
    rw [i_net_narrowLayout_l1] at h
    obtain ⟨h1, h2, h3, h6, h7, h8, h9, h10, h21, h22⟩ := hs
    refine .seq ?_
    refine .seq ?_
    refine run_reg ?_
    refine e_end ?_
    refine g_v1 (t := 10) (u := (.int .i64 i_41)) (.int .i64 i_41) h10 rfl rfl ?_
    refine g_v1 (t := 2) (u := (Enc.enc (order_3 : List Int))) (Enc.enc (order_3 : List Int)) h2 rfl rfl ?_
    refine g_v (.int .i64 (order_3.length : Int)) (ev_len (xs := order_3) rfl) ?_
    refine g_v1 (t := 1) (u := (.int .i64 width_2)) (.int .i64 width_2) h1 rfl rfl ?_
    refine g_v2 (t1 := 31) (t2 := 32) (u1 := (.int .i64 (order_3.length : Int))) (u2 := (.int .i64 width_2)) (.int .i64 (w64 ((order_3.length : Int) - width_2))) rfl rfl rfl rfl ?_
    refine g_v2 (t1 := 29) (t2 := 33) (u1 := (.int .i64 i_41)) (u2 := (.int .i64 (w64 ((order_3.length : Int) - width_2)))) (.bool (decide (i_41 < (w64 ((order_3.length : Int) - width_2))))) rfl rfl rfl rfl ?_
    refine g_v1 (t := 34) (u := (.bool (decide (i_41 < (w64 ((order_3.length : Int) - width_2)))))) (.bool (decide (i_41 < (w64 ((order_3.length : Int) - width_2))))) rfl rfl rfl ?_
    refine split_on (c := decide (i_41 < (w64 ((order_3.length : Int) - width_2)))) h (fun hg7 h => ?_) (fun hg7 h => ?_)
    · refine g_yes (Eq.trans (b := .bool (decide (i_41 < (w64 ((order_3.length : Int) - width_2))))) rfl (congrArg V.bool hg7)) (g_v1 (t := 9) (u := (.bool fits_40)) (.bool fits_40) h9 rfl rfl ?_)
      refine g_v2 (t1 := 35) (t2 := 36) (u1 := (.bool true)) (u2 := (.bool fits_40)) (.bool fits_40) (Eq.trans (b := .bool (decide (i_41 < (w64 ((order_3.length : Int) - width_2))))) rfl (congrArg V.bool hg7)) rfl rfl rfl ?_
      refine g_end ?_
      refine e_end ?_
      refine renew [(1, (.int .i64 width_2)), (2, (Enc.enc (order_3 : List Int))), (3, (.ref (.bx 3) 0 [] (.agg [(Enc.enc (w_1.a : List Int))]))), (6, (.sl .nl (Enc.shp Int) 0 [])), (7, (.bool false)), (8, (.int .i64 t22_20)), (9, (.bool fits_40)), (10, (.int .i64 i_41)), (21, (.int .i64 (w_1.a.length : Int))), (22, (.int .i64 t22_20)), (37, (.bool fits_40))] ⟨h1, h2, h3, h6, h7, h8, h9, h10, h21, h22, rfl⟩ ?_
      rintro s ⟨h1, h2, h3, h6, h7, h8, h9, h10, h21, h22, h37⟩
      exact t_f80_j1 H width_2 order_3 w_1 t22_20 fits_40 i_41 c1 Hc1 (i_net_narrowLayout_l1 F rc width_2 order_3 w_1 t22_20 c1 k) ih fits_40 _ ⟨h1, h2, h3, h6, h7, h8, h9, h10, h21, h22, h37⟩ h
    · refine g_no (Eq.trans (b := .bool (decide (i_41 < (w64 ((order_3.length : Int) - width_2))))) rfl (congrArg V.bool hg7)) ?_
      refine g_v2 (t1 := 35) (t2 := 36) (u1 := (.bool false)) (u2 := (.tup [])) (.bool false) (Eq.trans (b := .bool (decide (i_41 < (w64 ((order_3.length : Int) - width_2))))) rfl (congrArg V.bool hg7)) rfl rfl rfl ?_
      refine g_end ?_
      refine e_end ?_
      refine renew [(1, (.int .i64 width_2)), (2, (Enc.enc (order_3 : List Int))), (3, (.ref (.bx 3) 0 [] (.agg [(Enc.enc (w_1.a : List Int))]))), (6, (.sl .nl (Enc.shp Int) 0 [])), (7, (.bool false)), (8, (.int .i64 t22_20)), (9, (.bool fits_40)), (10, (.int .i64 i_41)), (21, (.int .i64 (w_1.a.length : Int))), (22, (.int .i64 t22_20)), (37, (.bool false))] ⟨h1, h2, h3, h6, h7, h8, h9, h10, h21, h22, rfl⟩ ?_
      rintro s ⟨h1, h2, h3, h6, h7, h8, h9, h10, h21, h22, h37⟩
      exact t_f80_j1 H width_2 order_3 w_1 t22_20 fits_40 i_41 c1 Hc1 (i_net_narrowLayout_l1 F rc width_2 order_3 w_1 t22_20 c1 k) ih false _ ⟨h1, h2, h3, h6, h7, h8, h9, h10, h21, h22, h37⟩ h
def i_net_narrowLayout_l2 (F : Nat) (rc : (S1 (List Int)) → Int → (List Int) → Option ((List Int) × Bool)) (width_2 : Int) (order_3 : (List Int)) (w_1 : (S1 (List Int)))  : Nat → Int → Option ((List Int) × Bool)
  | 0, _ => none
  | k + 1, t22_20 =>
    bif decide (t22_20 < (w_1.a.length : Int)) then
      (slices_Contains F order_3 t22_20).bind fun r_36 =>
      i_net_narrowLayout_l1 F rc width_2 order_3 w_1 t22_20 (i_net_narrowLayout_l2 F rc width_2 order_3 w_1 k) F (!r_36) 0
    else
      some ([], false)
theorem t_f80_l2 (H : H80 D σ F rc) (width_2 : Int) (order_3 : (List Int)) (w_1 : (S1 (List Int)))  : ∀ (k : Nat) (t22_20 : Int) (s : Nat → V), Facts [(1, (.int .i64 width_2)), (2, (Enc.enc (order_3 : List Int))), (3, (.ref (.bx 3) 0 [] (.agg [(Enc.enc (w_1.a : List Int))]))), (6, (.sl .nl (Enc.shp Int) 0 [])), (7, (.bool false)), (21, (.int .i64 (w_1.a.length : Int))), (22, (.int .i64 t22_20))] s → i_net_narrowLayout_l2 F rc width_2 order_3 w_1 k t22_20 = some r → Run D σ (R80 r) (.run A80_1 [.lp A80_1, .bk 0, .sq A80_17]) s := by
  intro k
  induction k with
  | zero => intro t22_20 s _ h; exact nomatch (h : (none : Option _) = some r)
  | succ k ih =>
    intro t22_20 s hs h
    rw [i_net_narrowLayout_l2] at h
    obtain ⟨h1, h2, h3, h6, h7, h21, h22⟩ := hs
    refine .seq ?_
    refine run_reg ?_
    refine e_end ?_
    refine g_v2 (t1 := 22) (t2 := 21) (u1 := (.int .i64 t22_20)) (u2 := (.int .i64 (w_1.a.length : Int))) (.bool (decide (t22_20 < (w_1.a.length : Int)))) h22 h21 rfl rfl ?_
    refine g_end ?_
    refine e_end ?_
    refine renew [(1, (.int .i64 width_2)), (2, (Enc.enc (order_3 : List Int))), (3, (.ref (.bx 3) 0 [] (.agg [(Enc.enc (w_1.a : List Int))]))), (6, (.sl .nl (Enc.shp Int) 0 [])), (7, (.bool false)), (21, (.int .i64 (w_1.a.length : Int))), (22, (.int .i64 t22_20)), (23, (.bool (decide (t22_20 < (w_1.a.length : Int)))))] ⟨h1, h2, h3, h6, h7, h21, h22, rfl⟩ ?_
    rintro s ⟨h1, h2, h3, h6, h7, h21, h22, h23⟩
    refine .nsq ?_
    refine .seq ?_
    refine run_cond (t := decide (t22_20 < (w_1.a.length : Int))) h23 h (fun h => ?_) (fun h => ?_)
    · refine .skip ?_
      refine .nsq ?_
      refine .seq ?_
      refine .block ?_
      refine .seq ?_
      refine run_reg ?_
      refine e_end ?_
      refine g_v1 (t := 22) (u := (.int .i64 t22_20)) (.int .i64 t22_20) h22 rfl rfl ?_
      refine g_v1 (t := 24) (u := (.int .i64 t22_20)) (.int .i64 t22_20) rfl rfl rfl ?_
      refine g_end ?_
      refine e_end ?_
      refine renew [(1, (.int .i64 width_2)), (2, (Enc.enc (order_3 : List Int))), (3, (.ref (.bx 3) 0 [] (.agg [(Enc.enc (w_1.a : List Int))]))), (6, (.sl .nl (Enc.shp Int) 0 [])), (7, (.bool false)), (8, (.int .i64 t22_20)), (21, (.int .i64 (w_1.a.length : Int))), (22, (.int .i64 t22_20))] ⟨h1, h2, h3, h6, h7, rfl, h21, h22⟩ ?_
      rintro s ⟨h1, h2, h3, h6, h7, h8, h21, h22⟩
      refine .nsq ?_
      refine .seq ?_
      refine run_reg ?_
      refine e_end ?_
      refine g_v1 (t := 2) (u := (Enc.enc (order_3 : List Int))) (Enc.enc (order_3 : List Int)) h2 rfl rfl ?_
      refine g_v1 (t := 8) (u := (.int .i64 t22_20)) (.int .i64 t22_20) h8 rfl rfl ?_
      obtain ⟨r_36, E_r_36, h⟩ := bind_some h
      refine g_call (m := 0) (al := false) (r := (Enc.enc (r_36 : Bool))) [Enc.enc (order_3 : (List Int)), Enc.enc (t22_20 : Int)] (ta_cons (v := (Enc.enc (order_3 : List Int))) rfl rfl (Enc.erase_enc (order_3 : (List Int))) (ta_cons (v := (.int .i64 t22_20)) rfl rfl rfl ta_nil)) (H.c117 _ _ _ E_r_36) H.g117 rfl rfl rfl rfl ?_
      refine g_v1 (t := 27) (u := (.bool r_36)) (.bool (!r_36)) rfl rfl rfl ?_
      refine g_v1 (t := 28) (u := (.bool (!r_36))) (.bool (!r_36)) rfl rfl rfl ?_
      refine g_end ?_
      refine e_end ?_
      refine renew [(1, (.int .i64 width_2)), (2, (Enc.enc (order_3 : List Int))), (3, (.ref (.bx 3) 0 [] (.agg [(Enc.enc (w_1.a : List Int))]))), (6, (.sl .nl (Enc.shp Int) 0 [])), (7, (.bool false)), (8, (.int .i64 t22_20)), (9, (.bool (!r_36))), (21, (.int .i64 (w_1.a.length : Int))), (22, (.int .i64 t22_20))] ⟨h1, h2, h3, h6, h7, h8, rfl, h21, h22⟩ ?_
      rintro s ⟨h1, h2, h3, h6, h7, h8, h9, h21, h22⟩
      refine .nsq ?_
      refine .seq ?_
      refine .seq ?_
      refine run_reg ?_
      refine e_end ?_
      refine g_v0 (.int .i64 0) rfl rfl ?_
      refine g_end ?_
      refine e_end ?_
      refine renew [(1, (.int .i64 width_2)), (2, (Enc.enc (order_3 : List Int))), (3, (.ref (.bx 3) 0 [] (.agg [(Enc.enc (w_1.a : List Int))]))), (6, (.sl .nl (Enc.shp Int) 0 [])), (7, (.bool false)), (8, (.int .i64 t22_20)), (9, (.bool (!r_36))), (10, (.int .i64 0)), (21, (.int .i64 (w_1.a.length : Int))), (22, (.int .i64 t22_20))] ⟨h1, h2, h3, h6, h7, h8, h9, rfl, h21, h22⟩ ?_
      rintro s ⟨h1, h2, h3, h6, h7, h8, h9, h10, h21, h22⟩
      refine .nsq ?_
      refine .block ?_
      refine .loop ?_
      exact t_f80_l1 H width_2 order_3 w_1 t22_20 (i_net_narrowLayout_l2 F rc width_2 order_3 w_1 k) ih F (!r_36) 0 _ ⟨h1, h2, h3, h6, h7, h8, h9, h10, h21, h22⟩ h
    · refine .exit ?_
      refine .esq ?_
      refine .elp ?_
      refine .ebk ?_
      refine .nsq ?_
      refine .seq ?_
      refine run_reg ?_
      refine e_end ?_
      refine g_v0 (.sl .nl (Enc.shp Int) 0 []) rfl rfl ?_
      refine g_v0 (.bool false) rfl rfl ?_
      refine g_end ?_
      refine e_end ?_
      refine renew [(6, (.sl .nl (Enc.shp Int) 0 [])), (7, (.bool false))] ⟨rfl, rfl⟩ ?_
      rintro s ⟨h6, h7⟩
      refine .nsq ?_
      refine .ret ?_
      have hr := Option.some.inj h
      subst hr
      exact rrB (res_tmp h6) (res_tmp h7) (fin_ret1 (fin_tup (fins_cons (fin_own (o := (.nil : NL Int)) (t := .nl)) (fins_cons (fin_enc (x := (false : Bool))) fins_nil))))
def i_net_narrowLayout_b (F : Nat) (rc : (S1 (List Int)) → Int → (List Int) → Option ((List Int) × Bool)) (w_1 : (S1 (List Int))) (width_2 : Int) (order_3 : (List Int)) : Option ((List Int) × Bool) :=
  (i_net_size F w_1).bind fun r_4 =>
  bif ((order_3.length : Int) == r_4) then
    some (order_3, true)
  else
    i_net_narrowLayout_l2 F rc width_2 order_3 w_1 F 0
theorem t80 (H : H80 D σ F rc) (w_1 : (S1 (List Int))) (width_2 : Int) (order_3 : (List Int)) (s : Nat → V) (hs : Facts [(0, (.agg [(Enc.enc (w_1.a : List Int))])), (1, (.int .i64 width_2)), (2, (Enc.enc (order_3 : List Int)))] s) (h : i_net_narrowLayout_b F rc w_1 width_2 order_3 = some r) : Run D σ (R80 r) (.run A80 []) s := by
  unfold i_net_narrowLayout_b at h
  obtain ⟨h0, h1, h2⟩ := hs
  refine .seq ?_
  refine run_reg ?_
  refine e_clr ?_
  refine e_end ?_
  refine g_box (.agg [(Enc.enc (w_1.a : List Int))]) (rd_of (keep_clear (s := s) (pk := [3]) h0 rfl (map_agg (maps_cons (Enc.map_enc _ (w_1.a : List Int)) maps_nil))) rfl) (gone_clear (s := s) (pk := [3]) (t := 3) rfl) rfl ?_
  refine g_v0 (.sl .nl (Enc.shp Int) 0 []) rfl rfl ?_
  refine g_v0 (.bool false) rfl rfl ?_
  refine g_end ?_
  refine e_end ?_
  refine renew [(1, (.int .i64 width_2)), (2, (Enc.enc (order_3 : List Int))), (3, (.ref (.bx 3) 0 [] (.agg [(Enc.enc (w_1.a : List Int))]))), (6, (.sl .nl (Enc.shp Int) 0 [])), (7, (.bool false))] ⟨(keep_clear (s := s) (pk := [3]) h1 rfl rfl), (keep_clear (s := s) (pk := [3]) h2 rfl (Enc.map_enc _ (order_3 : List Int))), rfl, rfl, rfl⟩ ?_
  rintro s ⟨h1, h2, h3, h6, h7⟩
  refine .nsq ?_
  refine .seq ?_
  refine .seq ?_
  refine run_reg ?_
  refine e_end ?_
  refine g_v1 (t := 2) (u := (Enc.enc (order_3 : List Int))) (Enc.enc (order_3 : List Int)) h2 rfl rfl ?_
  refine g_v (.int .i64 (order_3.length : Int)) (ev_len (xs := order_3) rfl) ?_
  refine g_v1 (t := 3) (u := (.ref (.bx 3) 0 [] (.agg [(Enc.enc (w_1.a : List Int))]))) (.agg [(Enc.enc (w_1.a : List Int))]) h3 rfl rfl ?_
  obtain ⟨r_4, E_r_4, h⟩ := bind_some h
  refine g_call (m := 0) (al := false) (r := (Enc.enc (r_4 : Int))) [Enc.enc (w_1 : (S1 (List Int)))] (ta_cons (v := (.agg [(Enc.enc (w_1.a : List Int))])) rfl rfl (Enc.erase_enc (w_1 : (S1 (List Int)))) ta_nil) (H.c116 _ _ E_r_4) H.g116 rfl rfl rfl rfl ?_
  refine g_v2 (t1 := 14) (t2 := 16) (u1 := (.int .i64 (order_3.length : Int))) (u2 := (.int .i64 r_4)) (.bool ((order_3.length : Int) == r_4)) rfl rfl rfl rfl ?_
  refine g_end ?_
  refine e_end ?_
  refine renew [(1, (.int .i64 width_2)), (2, (Enc.enc (order_3 : List Int))), (3, (.ref (.bx 3) 0 [] (.agg [(Enc.enc (w_1.a : List Int))]))), (6, (.sl .nl (Enc.shp Int) 0 [])), (7, (.bool false)), (17, (.bool ((order_3.length : Int) == r_4)))] ⟨h1, h2, h3, h6, h7, rfl⟩ ?_
  rintro s ⟨h1, h2, h3, h6, h7, h17⟩
  refine .nsq ?_
  refine run_cond (t := ((order_3.length : Int) == r_4)) h17 h (fun h => ?_) (fun h => ?_)
  · refine .seq ?_
    refine run_reg ?_
    refine e_end ?_
    refine g_v1 (t := 2) (u := (Enc.enc (order_3 : List Int))) (Enc.enc (order_3 : List Int)) h2 rfl rfl ?_
    refine g_v1 (t := 18) (u := (Enc.enc (order_3 : List Int))) (Enc.enc (order_3 : List Int)) rfl rfl rfl ?_
    refine g_v0 (.bool true) rfl rfl ?_
    refine g_end ?_
    refine e_end ?_
    refine renew [(1, (.int .i64 width_2)), (2, (Enc.enc (order_3 : List Int))), (3, (.ref (.bx 3) 0 [] (.agg [(Enc.enc (w_1.a : List Int))]))), (6, (Enc.enc (order_3 : List Int))), (7, (.bool true))] ⟨h1, h2, h3, rfl, rfl⟩ ?_
    rintro s ⟨h1, h2, h3, h6, h7⟩
    refine .nsq ?_
    refine .ret ?_
    have hr := Option.some.inj h
    subst hr
    exact rrB (res_tmp h6) (res_tmp h7) (fin_ret1 (fin_tup (fins_cons (fin_enc (x := (order_3 : (List Int)))) (fins_cons (fin_enc (x := (true : Bool))) fins_nil))))
  · refine .skip ?_
    refine .nsq ?_
    refine .seq ?_
    refine .seq ?_
    refine run_reg ?_
    refine e_end ?_
    refine g_v1 (t := 3) (u := (.ref (.bx 3) 0 [] (.agg [(Enc.enc (w_1.a : List Int))]))) (.ref (.bx 3) 0 [0] (Enc.enc (w_1.a : List Int))) h3 rfl rfl ?_
    refine g_v1 (t := 19) (u := (.ref (.bx 3) 0 [0] (Enc.enc (w_1.a : List Int)))) (Enc.enc (w_1.a : List Int)) rfl rfl rfl ?_
    refine g_v (.int .i64 (w_1.a.length : Int)) (ev_len (xs := w_1.a) rfl) ?_
    refine g_v0 (.int .i64 0) rfl rfl ?_
    refine g_end ?_
    refine e_end ?_
    refine renew [(1, (.int .i64 width_2)), (2, (Enc.enc (order_3 : List Int))), (3, (.ref (.bx 3) 0 [] (.agg [(Enc.enc (w_1.a : List Int))]))), (6, (.sl .nl (Enc.shp Int) 0 [])), (7, (.bool false)), (21, (.int .i64 (w_1.a.length : Int))), (22, (.int .i64 0))] ⟨h1, h2, h3, h6, h7, rfl, rfl⟩ ?_
    rintro s ⟨h1, h2, h3, h6, h7, h21, h22⟩
    refine .nsq ?_
    refine .block ?_
    refine .loop ?_
    exact t_f80_l2 H width_2 order_3 w_1 F 0 _ ⟨h1, h2, h3, h6, h7, h21, h22⟩ h
end
def i_net_narrowLayout_r (F : Nat) : Nat → (S1 (List Int)) → Int → (List Int) → Option ((List Int) × Bool)
  | 0, _, _, _ => none
  | k + 1, x0, x1, x2 => i_net_narrowLayout_b F (i_net_narrowLayout_r F k) x0 x1 x2
def i_net_narrowLayout (F : Nat) (x0 : (S1 (List Int))) (x1 : Int) (x2 : (List Int)) : Option ((List Int) × Bool) := i_net_narrowLayout_r F F x0 x1 x2
def e80 (F : Nat) (k : Nat) : Ent := ⟨80, da (fun (x : ((S1 (List Int)) × Int × (List Int) × Unit)) => i_net_narrowLayout_r F k x.1 x.2.1 x.2.2.1) (fun (r : ((List Int) × Bool)) => (.tup [Enc.enc (r.1 : (List Int)), Enc.enc (r.2 : Bool)])), 0, true, selF []⟩
theorem p80 {F : Nat} {k : Nat} {x0 : (S1 (List Int))} {x1 : Int} {x2 : (List Int)} {r : ((List Int) × Bool)} (h : i_net_narrowLayout_r F k x0 x1 x2 = some r) : (e80 F k).den [Enc.enc x0, Enc.enc x1, Enc.enc x2] = some (.tup [Enc.enc (r.1 : (List Int)), Enc.enc (r.2 : Bool)]) := da_put (f := fun (x : ((S1 (List Int)) × Int × (List Int) × Unit)) => i_net_narrowLayout_r F k x.1 x.2.1 x.2.2.1) (t := fun (r : ((List Int) × Bool)) => (.tup [Enc.enc (r.1 : (List Int)), Enc.enc (r.2 : Bool)])) (x0, x1, x2, ()) h
theorem z80 {F : Nat} : (e80 F 0).Ok Try.prog := by
  refine ok_of (f := 80) (show unk 80 = 80 from rfl) (fun args r h => ?_) ⟨Try.f80, Try.func80, rfl, rfl⟩
  obtain ⟨⟨x0, x1, x2, _⟩, y, rfl, hy, rfl⟩ := da_open h
  cases hy
theorem o80 {D : Den} {σ : Sig} {F k : Nat} (hF : Fits2 Try.prog D σ) (H : H80 D σ F (i_net_narrowLayout_r F k)) : (e80 F (k + 1)).Ok Try.prog := by
  refine ok_of (f := 80) (show unk 80 = 80 from rfl) (fun args r h => ?_) ⟨Try.f80, Try.func80, rfl, rfl⟩
  obtain ⟨⟨x0, x1, x2, _⟩, y, rfl, hy, rfl⟩ := da_open h
  exact contract_run hF (by kernel_rfl) Try.func80 rfl c80 (show 3 ≤ Try.f80.ntmps by decide) (t80 H x0 x1 x2 _ ⟨rfl, rfl, rfl⟩ hy)
/- (loop.example/g01109/impl.net).narrowLayout -/
def A80o_8 : AC := (AC.cond (O.t 37) AC.skip (AC.exit 2))
def A80o_10 : AC := (AC.reg [] [(I.mk (some 38) none false (X.v (A.mov (O.t 10)))), (I.mk (some 39) none false (X.v (A.bin BinOp.add (O.t 38) (O.k (V.int IntKind.i64 (Int.ofNat 1)))))), (I.mk (some 10) none false (X.v (A.mov (O.t 39))))] [])
def A80o_9 : AC := (AC.seq (AC.block 3 (AC.reg [] [(I.mk (some 40) none false (X.v (A.load (Sh.ag [Sh.p]) (O.t 3)))), (I.mk (some 41) none false (X.v (A.mov (O.t 2)))), (I.mk (some 42) none false (X.v (A.mov (O.t 10)))), (I.mk (some 43) none false (X.v (A.idx (O.t 41) (O.t 42) 1))), (I.mk (some 44) none false (X.v (A.load Sh.s (O.t 43)))), (I.mk (some 45) none false (X.v (A.mov (O.t 8)))), (I.mk (some 46) none false (X.call (O.k (V.fn 118 [] [])) [(O.t 40), (O.t 44), (O.t 45)])), (I.mk (some 47) none false (X.v (A.un UnOp.not (O.t 46)))), (I.mk (some 9) none false (X.v (A.mov (O.t 47))))] [])) A80o_10)
def A80o_7 : AC := (AC.seq (AC.seq (AC.reg [] [(I.mk (some 29) none false (X.v (A.mov (O.t 10)))), (I.mk (some 30) none false (X.v (A.mov (O.t 2)))), (I.mk (some 31) none false (X.v (A.len (O.t 30)))), (I.mk (some 32) none false (X.v (A.mov (O.t 1)))), (I.mk (some 33) none false (X.v (A.bin BinOp.sub (O.t 31) (O.t 32)))), (I.mk (some 34) none false (X.v (A.bin BinOp.lss (O.t 29) (O.t 33)))), (I.mk (some 35) none false (X.v (A.mov (O.t 34)))), (I.mk (some 36) (some (35, true)) false (X.v (A.mov (O.t 9)))), (I.mk (some 37) none false (X.v (A.pick (O.t 35) (O.t 36) (O.k (V.bool false)))))] []) A80o_8) A80o_9)
def A80o_6 : AC := (AC.block 2 (AC.loop A80o_7))
def A80o_12 : AC := (AC.cond (O.t 49) (AC.exit 1) AC.skip)
def A80o_15 : AC := (AC.cond (O.t 61) (AC.seq (AC.reg [] [(I.mk (some 62) none false (X.v (A.mov (O.t 11)))), (I.mk (some 6) none false (X.v (A.mov (O.t 62)))), (I.mk (some 7) none false (X.v (A.mov (O.k (V.bool true)))))] [.home 11 6]) AC.ret) AC.skip)
def A80o_14 : AC := (AC.seq (AC.reg [] [(I.mk (some 61) none false (X.v (A.mov (O.t 12))))] []) A80o_15)
def A80o_13 : AC := (AC.seq (AC.reg [.clr [54, 56, 57, 58]] [(I.mk (some 51) none false (X.v (A.load (Sh.ag [Sh.p]) (O.t 3)))), (I.mk (some 52) none false (X.v (A.mov (O.t 1)))), (I.mk (some 53) none false (X.v (A.mov (O.t 2)))), (I.mk (some 54) none true (X.callO (O.k (V.fn 102 [] [])) [(O.t 53)])), (I.mk (some 55) none false (X.v (A.mov (O.t 8)))), (I.mk (some 56) none false (X.lit (V.int IntKind.i64 (Int.ofNat 0)) 1 [(0, 0, (O.t 55))])), (I.mk (some 57) none false (X.appS Sh.s (O.t 54) (O.t 56))), (I.mk (some 58) none false (X.callG (O.k (V.fn 80 [] [])) 2 [(O.t 51), (O.t 52), (O.t 57)])), (I.mk (some 50) none false (X.v (A.mov (O.t 58)))), (I.mk (some 59) none false (X.v (A.ext (O.t 50) 0))), (I.mk (some 60) none false (X.v (A.extS (O.t 50) 1))), (I.mk (some 11) none false (X.v (A.mov (O.t 59)))), (I.mk (some 12) none false (X.v (A.mov (O.t 60))))] [.home 58 11]) A80o_14)
def A80o_11 : AC := (AC.seq (AC.seq (AC.reg [] [(I.mk (some 48) none false (X.v (A.mov (O.t 9)))), (I.mk (some 49) none false (X.v (A.un UnOp.not (O.t 48))))] []) A80o_12) A80o_13)
def A80o_5 : AC := (AC.seq (AC.seq (AC.reg [] [(I.mk (some 10) none false (X.v (A.mov (O.k (V.int IntKind.i64 (Int.ofNat 0))))))] []) A80o_6) A80o_11)
def A80o_4 : AC := (AC.seq (AC.reg [] [(I.mk (some 25) none false (X.v (A.mov (O.t 2)))), (I.mk (some 26) none false (X.v (A.mov (O.t 8)))), (I.mk (some 27) none false (X.call (O.k (V.fn 117 [] [])) [(O.t 25), (O.t 26)])), (I.mk (some 28) none false (X.v (A.un UnOp.not (O.t 27)))), (I.mk (some 9) none false (X.v (A.mov (O.t 28))))] []) A80o_5)
def A80o_16 : AC := (AC.reg [] [(I.mk (some 63) none false (X.v (A.bin BinOp.add (O.t 22) (O.k (V.int IntKind.i64 (Int.ofNat 1)))))), (I.mk (some 22) none false (X.v (A.mov (O.t 63))))] [])
def A80o_3 : AC := (AC.seq (AC.block 1 (AC.seq (AC.reg [] [(I.mk (some 24) none false (X.v (A.mov (O.t 22)))), (I.mk (some 8) none false (X.v (A.mov (O.t 24))))] []) A80o_4)) A80o_16)
def A80o_2 : AC := (AC.seq (AC.cond (O.t 23) AC.skip (AC.exit 0)) A80o_3)
def A80o_1 : AC := (AC.seq (AC.reg [] [(I.mk (some 23) none false (X.v (A.bin BinOp.lss (O.t 22) (O.t 21))))] []) A80o_2)
def A80o_17 : AC := (AC.seq (AC.reg [] [(I.mk (some 6) none false (X.v (A.mov (O.k (V.sl Tok.nl Sh.s 0 []))))), (I.mk (some 7) none false (X.v (A.mov (O.k (V.bool false)))))] []) AC.ret)
def A80o_19 : AC := (AC.cond (O.t 17) (AC.seq (AC.reg [] [(I.mk (some 18) none false (X.v (A.mov (O.t 2)))), (I.mk (some 6) none false (X.v (A.mov (O.t 18)))), (I.mk (some 7) none false (X.v (A.mov (O.k (V.bool true)))))] []) AC.ret) AC.skip)
def A80o_21 : AC := (AC.block 0 (AC.loop A80o_1))
def A80o_20 : AC := (AC.seq (AC.seq (AC.reg [] [(I.mk (some 19) none false (X.v (A.fld (O.t 3) 0 0))), (I.mk (some 20) none false (X.v (A.load Sh.p (O.t 19)))), (I.mk (some 21) none false (X.v (A.len (O.t 20)))), (I.mk (some 22) none false (X.v (A.mov (O.k (V.int IntKind.i64 (Int.ofNat 0))))))] []) A80o_21) A80o_17)
def A80o_18 : AC := (AC.seq (AC.seq (AC.reg [] [(I.mk (some 13) none false (X.v (A.mov (O.t 2)))), (I.mk (some 14) none false (X.v (A.len (O.t 13)))), (I.mk (some 15) none false (X.v (A.load (Sh.ag [Sh.p]) (O.t 3)))), (I.mk (some 16) none false (X.call (O.k (V.fn 116 [] [])) [(O.t 15)])), (I.mk (some 17) none false (X.v (A.bin BinOp.eql (O.t 14) (O.t 16))))] []) A80o_19) A80o_20)
def A80o : AC := (AC.seq (AC.reg [.clr [3]] [(I.mk (some 3) none false (X.box (O.t 0))), (I.mk (some 6) none false (X.v (A.mov (O.k (V.sl Tok.nl Sh.s 0 []))))), (I.mk (some 7) none false (X.v (A.mov (O.k (V.bool false)))))] [.home pinR 2]) A80o_18)
def an80o : List An := [{ id := 0, pre := [.clr [3]], ep := [.home pinR 2], lin := [], sp := [] }, { id := 12, pre := [.clr [54, 56, 57, 58]], ep := [.home 58 11], lin := [3], sp := [6, 4007, 1003] }, { id := 14, pre := [], ep := [.home 11 6], lin := [], sp := [] }]
theorem c80o : cC Try.prog Try.f80.ntmps an80o (Try.f80.body.getD .skip) = some A80o := by kernel_rfl
structure H80o (D : Den) (σ : Sig) (F : Nat) (rc : (S1 (List Int)) → Int → (On Int) → Option ((NL Int) × Bool)) : Prop where
  c116 : ∀ (x0 : (S1 (List Int))) r, i_net_size F x0 = some r → D 116 [Enc.enc x0] = some (Enc.enc (r : Int))
  g116 : σ 116 = some (0, false)
  c117 : ∀ (x0 : (List Int)) (x1 : Int) r, slices_Contains F x0 x1 = some r → D 117 [Enc.enc x0, Enc.enc x1] = some (Enc.enc (r : Bool))
  g117 : σ 117 = some (0, false)
  c118 : ∀ (x0 : (S1 (List Int))) (x1 : Int) (x2 : Int) r, i_net_has F x0 x1 x2 = some r → D 118 [Enc.enc x0, Enc.enc x1, Enc.enc x2] = some (Enc.enc (r : Bool))
  g118 : σ 118 = some (0, false)
  c102o : ∀ (x0 : (List Int)) r, slices_Clone_o F x0 = some r → D 1000000102 [Enc.enc x0] = some (encO .sh (r : NL Int))
  g102o : σ 1000000102 = some (1, false)
  c80o : ∀ (x0 : (S1 (List Int))) (x1 : Int) (x2 : (On Int)) r, rc x0 x1 x2 = some r → D 1000000080 [Enc.enc x0, Enc.enc x1, Arg.arg x2] = some (.tup [(encO .sh (r.1 : NL Int)), (Enc.enc (r.2 : Bool))])
  g80o : σ 1000000080 = some (giveM, false)
abbrev R80o (r : ((NL Int) × Bool)) : (Nat → V) → Prop := RR Try.prog [.tmp 6, .tmp 7] 1 false (.tup [(encO .sh (r.1 : NL Int)), (Enc.enc (r.2 : Bool))])
section
variable {D : Den} {σ : Sig} {F : Nat} {rc : (S1 (List Int)) → Int → (On Int) → Option ((NL Int) × Bool)} {r : ((NL Int) × Bool)}
def i_net_narrowLayout_o_j1 (F : Nat) (rc : (S1 (List Int)) → Int → (On Int) → Option ((NL Int) × Bool)) (width_2 : Int) (order_3 : (On Int)) (w_1 : (S1 (List Int))) (t22_20 : Int) (fits_40 : Bool) (i_41 : Int) (c1 : Int → Option ((NL Int) × Bool)) (c4 : Bool → Int → Option ((NL Int) × Bool)) (t37_45 : Bool) : Option ((NL Int) × Bool) :=
  bif t37_45 then
    (idx order_3.v.list i_41).bind fun e_46 =>
    (i_net_has F w_1 e_46 t22_20).bind fun r_47 =>
    c4 (!r_47) (w64 (i_41 + 1))
  else
    bif (!fits_40) then
      c1 (w64 (t22_20 + 1))
    else
      (slices_Clone_o F order_3.v.list).bind fun r_48 =>
      (appL r_48.list [t22_20]).bind fun ap_49 =>
      (rc w_1 width_2 (On.mk (.of ap_49) : On Int)).bind fun r_50 =>
      bif r_50.2 then
        some (r_50.1, true)
      else
        c1 (w64 (t22_20 + 1))
theorem t_f80o_j1 (H : H80o D σ F rc) (width_2 : Int) (order_3 : (On Int)) (w_1 : (S1 (List Int))) (t22_20 : Int) (fits_40 : Bool) (i_41 : Int) (c1 : Int → Option ((NL Int) × Bool)) (Hc1 : ∀ (t22_20 : Int) (s : Nat → V), Facts [(1, (.int .i64 width_2)), (2, (encO (.at 2 []) (order_3.v : NL Int))), (3, (.ref (.bx 3) 0 [] (.agg [(Enc.enc (w_1.a : List Int))]))), (6, (.sl .nl (Enc.shp Int) 0 [])), (7, (.bool false)), (21, (.int .i64 (w_1.a.length : Int))), (22, (.int .i64 t22_20))] s → c1 t22_20 = some r → Run D σ (R80o r) (.run A80o_1 [.lp A80o_1, .bk 0, .sq A80o_17]) s) (c4 : Bool → Int → Option ((NL Int) × Bool)) (Hc4 : ∀ (fits_40 : Bool) (i_41 : Int) (s : Nat → V), Facts [(1, (.int .i64 width_2)), (2, (encO (.at 2 []) (order_3.v : NL Int))), (3, (.ref (.bx 3) 0 [] (.agg [(Enc.enc (w_1.a : List Int))]))), (6, (.sl .nl (Enc.shp Int) 0 [])), (7, (.bool false)), (8, (.int .i64 t22_20)), (9, (.bool fits_40)), (10, (.int .i64 i_41)), (21, (.int .i64 (w_1.a.length : Int))), (22, (.int .i64 t22_20))] s → c4 fits_40 i_41 = some r → Run D σ (R80o r) (.run A80o_7 [.lp A80o_7, .bk 2, .sq A80o_11, .bk 1, .sq A80o_16, .lp A80o_1, .bk 0, .sq A80o_17]) s) (t37_45 : Bool) (s : Nat → V) (hs : Facts [(1, (.int .i64 width_2)), (2, (encO (.at 2 []) (order_3.v : NL Int))), (3, (.ref (.bx 3) 0 [] (.agg [(Enc.enc (w_1.a : List Int))]))), (6, (.sl .nl (Enc.shp Int) 0 [])), (7, (.bool false)), (8, (.int .i64 t22_20)), (9, (.bool fits_40)), (10, (.int .i64 i_41)), (21, (.int .i64 (w_1.a.length : Int))), (22, (.int .i64 t22_20)), (37, (.bool t37_45))] s) (h : i_net_narrowLayout_o_j1 F rc width_2 order_3 w_1 t22_20 fits_40 i_41 c1 c4 t37_45 = some r) : Run D σ (R80o r) (.nrm [.sq A80o_8, .sq A80o_9, .lp A80o_7, .bk 2, .sq A80o_11, .bk 1, .sq A80o_16, .lp A80o_1, .bk 0, .sq A80o_17]) s := by
  unfold i_net_narrowLayout_o_j1 at h
  obtain ⟨h1, h2, h3, h6, h7, h8, h9, h10, h21, h22, h37⟩ := hs
  refine .nsq ?_
  refine run_cond (t := t37_45) h37 h (fun h => ?_) (fun h => ?_)
  · refine .skip ?_
    refine .nsq ?_
    refine .seq ?_
    refine .block ?_
    refine run_reg ?_
    refine e_end ?_
    refine g_v1 (t := 3) (u := (.ref (.bx 3) 0 [] (.agg [(Enc.enc (w_1.a : List Int))]))) (.agg [(Enc.enc (w_1.a : List Int))]) h3 rfl rfl ?_
    refine g_v (encO (.at 2 []) (order_3.v : NL Int)) (ev_mov h2 ok_encO) ?_
    refine g_v1 (t := 10) (u := (.int .i64 i_41)) (.int .i64 i_41) h10 rfl rfl ?_
    obtain ⟨e_46, E_e_46, h⟩ := bind_some h
    refine g_v (.ref (.at 2 []) i_41.toNat [] (.int .i64 e_46)) (ev_idxO (o := order_3.v) rfl rfl E_e_46 rfl) ?_
    refine g_v1 (t := 43) (u := (.ref (.at 2 []) i_41.toNat [] (.int .i64 e_46))) (.int .i64 e_46) rfl rfl rfl ?_
    refine g_v1 (t := 8) (u := (.int .i64 t22_20)) (.int .i64 t22_20) h8 rfl rfl ?_
    obtain ⟨r_47, E_r_47, h⟩ := bind_some h
    refine g_call (m := 0) (al := false) (r := (Enc.enc (r_47 : Bool))) [Enc.enc (w_1 : (S1 (List Int))), Enc.enc (e_46 : Int), Enc.enc (t22_20 : Int)] (ta_cons (v := (.agg [(Enc.enc (w_1.a : List Int))])) rfl rfl (Enc.erase_enc (w_1 : (S1 (List Int)))) (ta_cons (v := (.int .i64 e_46)) rfl rfl rfl (ta_cons (v := (.int .i64 t22_20)) rfl rfl rfl ta_nil))) (H.c118 _ _ _ _ E_r_47) H.g118 rfl rfl rfl rfl ?_
    refine g_v1 (t := 46) (u := (.bool r_47)) (.bool (!r_47)) rfl rfl rfl ?_
    refine g_v1 (t := 47) (u := (.bool (!r_47))) (.bool (!r_47)) rfl rfl rfl ?_
    refine g_end ?_
    refine e_end ?_
    refine renew [(1, (.int .i64 width_2)), (2, (encO (.at 2 []) (order_3.v : NL Int))), (3, (.ref (.bx 3) 0 [] (.agg [(Enc.enc (w_1.a : List Int))]))), (6, (.sl .nl (Enc.shp Int) 0 [])), (7, (.bool false)), (8, (.int .i64 t22_20)), (9, (.bool (!r_47))), (10, (.int .i64 i_41)), (21, (.int .i64 (w_1.a.length : Int))), (22, (.int .i64 t22_20))] ⟨h1, h2, h3, h6, h7, h8, rfl, h10, h21, h22⟩ ?_
    rintro s ⟨h1, h2, h3, h6, h7, h8, h9, h10, h21, h22⟩
    refine .nbk ?_
    refine .nsq ?_
    refine run_reg ?_
    refine e_end ?_
    refine g_v1 (t := 10) (u := (.int .i64 i_41)) (.int .i64 i_41) h10 rfl rfl ?_
    refine g_v1 (t := 38) (u := (.int .i64 i_41)) (.int .i64 (w64 (i_41 + 1))) rfl rfl rfl ?_
    refine g_v1 (t := 39) (u := (.int .i64 (w64 (i_41 + 1)))) (.int .i64 (w64 (i_41 + 1))) rfl rfl rfl ?_
    refine g_end ?_
    refine e_end ?_
    refine renew [(1, (.int .i64 width_2)), (2, (encO (.at 2 []) (order_3.v : NL Int))), (3, (.ref (.bx 3) 0 [] (.agg [(Enc.enc (w_1.a : List Int))]))), (6, (.sl .nl (Enc.shp Int) 0 [])), (7, (.bool false)), (8, (.int .i64 t22_20)), (9, (.bool (!r_47))), (10, (.int .i64 (w64 (i_41 + 1)))), (21, (.int .i64 (w_1.a.length : Int))), (22, (.int .i64 t22_20))] ⟨h1, h2, h3, h6, h7, h8, h9, rfl, h21, h22⟩ ?_
    rintro s ⟨h1, h2, h3, h6, h7, h8, h9, h10, h21, h22⟩
    refine .nlp ?_
    exact Hc4 (!r_47) (w64 (i_41 + 1)) _ ⟨h1, h2, h3, h6, h7, h8, h9, h10, h21, h22⟩ h
  · refine .exit ?_
    refine .esq ?_
    refine .elp ?_
    refine .ebk ?_
    refine .nsq ?_
    refine .seq ?_
    refine .seq ?_
    refine run_reg ?_
    refine e_end ?_
    refine g_v1 (t := 9) (u := (.bool fits_40)) (.bool fits_40) h9 rfl rfl ?_
    refine g_v1 (t := 48) (u := (.bool fits_40)) (.bool (!fits_40)) rfl rfl rfl ?_
    refine g_end ?_
    refine e_end ?_
    refine renew [(1, (.int .i64 width_2)), (2, (encO (.at 2 []) (order_3.v : NL Int))), (3, (.ref (.bx 3) 0 [] (.agg [(Enc.enc (w_1.a : List Int))]))), (6, (.sl .nl (Enc.shp Int) 0 [])), (7, (.bool false)), (8, (.int .i64 t22_20)), (21, (.int .i64 (w_1.a.length : Int))), (22, (.int .i64 t22_20)), (49, (.bool (!fits_40)))] ⟨h1, h2, h3, h6, h7, h8, h21, h22, rfl⟩ ?_
    rintro s ⟨h1, h2, h3, h6, h7, h8, h21, h22, h49⟩
    refine .nsq ?_
    refine run_cond (t := (!fits_40)) h49 h (fun h => ?_) (fun h => ?_)
    · refine .exit ?_
      refine .esq ?_
      refine .ebk ?_
      refine .nsq ?_
      refine run_reg ?_
      refine e_end ?_
      refine g_v1 (t := 22) (u := (.int .i64 t22_20)) (.int .i64 (w64 (t22_20 + 1))) h22 rfl rfl ?_
      refine g_v1 (t := 63) (u := (.int .i64 (w64 (t22_20 + 1)))) (.int .i64 (w64 (t22_20 + 1))) rfl rfl rfl ?_
      refine g_end ?_
      refine e_end ?_
      refine renew [(1, (.int .i64 width_2)), (2, (encO (.at 2 []) (order_3.v : NL Int))), (3, (.ref (.bx 3) 0 [] (.agg [(Enc.enc (w_1.a : List Int))]))), (6, (.sl .nl (Enc.shp Int) 0 [])), (7, (.bool false)), (21, (.int .i64 (w_1.a.length : Int))), (22, (.int .i64 (w64 (t22_20 + 1))))] ⟨h1, h2, h3, h6, h7, h21, rfl⟩ ?_
      rintro s ⟨h1, h2, h3, h6, h7, h21, h22⟩
      refine .nlp ?_
      exact Hc1 (w64 (t22_20 + 1)) _ ⟨h1, h2, h3, h6, h7, h21, h22⟩ h
    · refine .skip ?_
      refine .nsq ?_
      refine .seq ?_
      refine run_reg ?_
      refine e_clr ?_
      refine e_end ?_
      refine g_v1 (t := 3) (u := (.ref (.bx 3) 0 [] (.agg [(Enc.enc (w_1.a : List Int))]))) (.agg [(Enc.enc (w_1.a : List Int))]) (keep_clear (s := s) (pk := [54, 56, 57, 58]) h3 rfl (map_bx rfl (map_agg (maps_cons (Enc.map_enc _ (w_1.a : List Int)) maps_nil)))) rfl rfl ?_
      refine g_v1 (t := 1) (u := (.int .i64 width_2)) (.int .i64 width_2) (keep_clear (s := s) (pk := [54, 56, 57, 58]) h1 rfl rfl) rfl rfl ?_
      refine g_v (encO (.at 2 []) (order_3.v : NL Int)) (ev_mov (keep_clear (s := s) (pk := [54, 56, 57, 58]) h2 rfl (map_encO (r := 2) (p := []) rfl rfl)) ok_encO) ?_
      obtain ⟨r_48, E_r_48, h⟩ := bind_some h
      refine g_callOl (m := 1) (al := false) (r := (encO .sh (r_48 : NL Int))) (o := (r_48 : NL Int)) (kk := 1000000102) [Enc.enc (order_3.v.list : (List Int))] (ta_cons (v := (encO (.at 2 []) (order_3.v : NL Int))) rfl ok_encP (erase_encO (o := order_3.v)) ta_nil) (H.c102o _ _ E_r_48) H.g102o rfl toks_encS tag_encO (gone_clear (s := s) (pk := [54, 56, 57, 58]) (t := 54) rfl) ?_
      refine g_v1 (t := 8) (u := (.int .i64 t22_20)) (.int .i64 t22_20) (keep_clear (s := s) (pk := [54, 56, 57, 58]) h8 rfl rfl) rfl rfl ?_
      refine g_litL [(55, (.int .i64 t22_20))] [Enc.enc (t22_20 : Int)] rfl rfl rfl (gone_clear (s := s) (pk := [54, 56, 57, 58]) (t := 56) rfl) ?_
      obtain ⟨ap_49, E_ap_49, h⟩ := bind_some h
      refine g_appSO (o := (r_48 : NL Int)) (ys := ([t22_20] : List Int)) (t2 := (.at 56 [])) (lo2 := 0) rfl rfl rfl (gone_clear (s := s) (pk := [54, 56, 57, 58]) (t := 57) rfl) (by simp) E_ap_49 (fun s_16 hl_16 => ?_)
      obtain ⟨r_50, E_r_50, h⟩ := bind_some h
      refine g_callG (q := 57) (p := []) (o := ((.of ap_49) : NL Int)) (r := (.tup [(encO .sh (r_50.1 : NL Int)), (Enc.enc (r_50.2 : Bool))])) (u := (.tup [(encO (.at 58 [0]) (r_50.1 : NL Int)), (.bool r_50.2)])) (kk := 1000000080) [Enc.enc (w_1 : (S1 (List Int))), Enc.enc (width_2 : Int), .bool true] rfl rfl rfl H.g80o (toks_tup (tokss_cons toks_encS (tokss_cons rfl tokss_nil))) (tag_tup (tags_cons tag_encO (tags_cons rfl tags_nil))) rfl (show s_16 58 = .gone from (hl_16 58 (by decide)).trans (gone_clear (s := s) (pk := [54, 56, 57, 58]) (t := 58) rfl)) (by decide) (fun s_17 ha_17 => ⟨by exact (ta_cons (v := (.agg [(Enc.enc (w_1.a : List Int))])) (show s_17 51 = (.agg [(Enc.enc (w_1.a : List Int))]) from keep_app ha_17 (show s_16 51 = (.agg [(Enc.enc (w_1.a : List Int))]) from (hl_16 51 (by decide)).trans rfl) (map_agg (maps_cons (Enc.map_enc _ (w_1.a : List Int)) maps_nil))) rfl (Enc.erase_enc (w_1 : (S1 (List Int)))) (ta_cons (v := (.int .i64 width_2)) (show s_17 52 = (.int .i64 width_2) from keep_app ha_17 (show s_16 52 = (.int .i64 width_2) from (hl_16 52 (by decide)).trans rfl) rfl) rfl rfl (ta_cons (v := (.bool true)) rfl rfl rfl ta_nil))), by exact (H.c80o _ _ _ _ E_r_50), ?_⟩)
      refine g_v1 (t := 58) (u := (.tup [(encO (.at 58 [0]) (r_50.1 : NL Int)), (.bool r_50.2)])) (.tup [(encO (.at 58 [0]) (r_50.1 : NL Int)), (.bool r_50.2)]) rfl rfl rfl ?_
      refine g_v (encO (.at 58 [0]) (r_50.1 : NL Int)) (ev_extN (v := (encO (.at 58 [0]) (r_50.1 : NL Int))) rfl rfl ok_encP) ?_
      refine g_v1 (t := 50) (u := (.tup [(encO (.at 58 [0]) (r_50.1 : NL Int)), (.bool r_50.2)])) (.bool r_50.2) rfl rfl rfl ?_
      refine g_v (encO (.at 58 [0]) (r_50.1 : NL Int)) (ev_mov rfl ok_encO) ?_
      refine g_v1 (t := 60) (u := (.bool r_50.2)) (.bool r_50.2) rfl rfl rfl ?_
      refine g_end ?_
      refine e_home (r := 58) (x := 11) (v := (encO (.at 58 [0]) (r_50.1 : NL Int))) (by exact rfl) ok_encO (fun s_18 hg_18 => ?_)
      refine e_end ?_
      refine renew [(1, (.int .i64 width_2)), (2, (encO (.at 2 []) (order_3.v : NL Int))), (3, (.ref (.bx 3) 0 [] (.agg [(Enc.enc (w_1.a : List Int))]))), (6, (.sl .nl (Enc.shp Int) 0 [])), (7, (.bool false)), (11, (encO (.at 11 [0]) (r_50.1 : NL Int))), (12, (.bool r_50.2)), (21, (.int .i64 (w_1.a.length : Int))), (22, (.int .i64 t22_20))] ⟨(hg_18 1 (.int .i64 width_2) (.int .i64 width_2) (show s_17 1 = (.int .i64 width_2) from keep_app ha_17 (show s_16 1 = (.int .i64 width_2) from (hl_16 1 (by decide)).trans (keep_clear (s := s) (pk := [54, 56, 57, 58]) h1 rfl rfl)) rfl) rfl), (hg_18 2 (encO (.at 2 []) (order_3.v : NL Int)) (encO (.at 2 []) (order_3.v : NL Int)) (show s_17 2 = (encO (.at 2 []) (order_3.v : NL Int)) from keep_app ha_17 (show s_16 2 = (encO (.at 2 []) (order_3.v : NL Int)) from (hl_16 2 (by decide)).trans (keep_clear (s := s) (pk := [54, 56, 57, 58]) h2 rfl (map_encO (r := 2) (p := []) rfl rfl))) (map_encO (r := 2) (p := []) rfl rfl)) (map_encO (r := 2) (p := []) rfl rfl)), (hg_18 3 (.ref (.bx 3) 0 [] (.agg [(Enc.enc (w_1.a : List Int))])) (.ref (.bx 3) 0 [] (.agg [(Enc.enc (w_1.a : List Int))])) (show s_17 3 = (.ref (.bx 3) 0 [] (.agg [(Enc.enc (w_1.a : List Int))])) from keep_app ha_17 (show s_16 3 = (.ref (.bx 3) 0 [] (.agg [(Enc.enc (w_1.a : List Int))])) from (hl_16 3 (by decide)).trans (keep_clear (s := s) (pk := [54, 56, 57, 58]) h3 rfl (map_bx rfl (map_agg (maps_cons (Enc.map_enc _ (w_1.a : List Int)) maps_nil))))) (map_bx rfl (map_agg (maps_cons (Enc.map_enc _ (w_1.a : List Int)) maps_nil)))) (map_bx rfl (map_agg (maps_cons (Enc.map_enc _ (w_1.a : List Int)) maps_nil)))), (hg_18 6 (.sl .nl (Enc.shp Int) 0 []) (.sl .nl (Enc.shp Int) 0 []) (show s_17 6 = (.sl .nl (Enc.shp Int) 0 []) from keep_app ha_17 (show s_16 6 = (.sl .nl (Enc.shp Int) 0 []) from (hl_16 6 (by decide)).trans (keep_clear (s := s) (pk := [54, 56, 57, 58]) h6 rfl rfl)) rfl) rfl), (hg_18 7 (.bool false) (.bool false) (show s_17 7 = (.bool false) from keep_app ha_17 (show s_16 7 = (.bool false) from (hl_16 7 (by decide)).trans (keep_clear (s := s) (pk := [54, 56, 57, 58]) h7 rfl rfl)) rfl) rfl), (hg_18 11 (encO (.at 58 [0]) (r_50.1 : NL Int)) (encO (.at 11 [0]) (r_50.1 : NL Int)) rfl (map_encO (r := 58) (p := [0]) rfl rfl)), (hg_18 12 (.bool r_50.2) (.bool r_50.2) rfl rfl), (hg_18 21 (.int .i64 (w_1.a.length : Int)) (.int .i64 (w_1.a.length : Int)) (show s_17 21 = (.int .i64 (w_1.a.length : Int)) from keep_app ha_17 (show s_16 21 = (.int .i64 (w_1.a.length : Int)) from (hl_16 21 (by decide)).trans (keep_clear (s := s) (pk := [54, 56, 57, 58]) h21 rfl rfl)) rfl) rfl), (hg_18 22 (.int .i64 t22_20) (.int .i64 t22_20) (show s_17 22 = (.int .i64 t22_20) from keep_app ha_17 (show s_16 22 = (.int .i64 t22_20) from (hl_16 22 (by decide)).trans (keep_clear (s := s) (pk := [54, 56, 57, 58]) h22 rfl rfl)) rfl) rfl)⟩ ?_
      rintro s ⟨h1, h2, h3, h6, h7, h11, h12, h21, h22⟩
      refine .nsq ?_
      refine .seq ?_
      refine run_reg ?_
      refine e_end ?_
      refine g_v1 (t := 12) (u := (.bool r_50.2)) (.bool r_50.2) h12 rfl rfl ?_
      refine g_end ?_
      refine e_end ?_
      refine renew [(1, (.int .i64 width_2)), (2, (encO (.at 2 []) (order_3.v : NL Int))), (3, (.ref (.bx 3) 0 [] (.agg [(Enc.enc (w_1.a : List Int))]))), (6, (.sl .nl (Enc.shp Int) 0 [])), (7, (.bool false)), (11, (encO (.at 11 [0]) (r_50.1 : NL Int))), (21, (.int .i64 (w_1.a.length : Int))), (22, (.int .i64 t22_20)), (61, (.bool r_50.2))] ⟨h1, h2, h3, h6, h7, h11, h21, h22, rfl⟩ ?_
      rintro s ⟨h1, h2, h3, h6, h7, h11, h21, h22, h61⟩
      refine .nsq ?_
      refine run_cond (t := r_50.2) h61 h (fun h => ?_) (fun h => ?_)
      · refine .seq ?_
        refine run_reg ?_
        refine e_end ?_
        refine g_v (encO (.at 11 [0]) (r_50.1 : NL Int)) (ev_mov h11 ok_encO) ?_
        refine g_v (encO (.at 11 [0]) (r_50.1 : NL Int)) (ev_mov rfl ok_encO) ?_
        refine g_v0 (.bool true) rfl rfl ?_
        refine g_end ?_
        refine e_home (r := 11) (x := 6) (v := (encO (.at 11 [0]) (r_50.1 : NL Int))) (by exact rfl) ok_encO (fun s_20 hg_20 => ?_)
        refine e_end ?_
        refine renew [(1, (.int .i64 width_2)), (2, (encO (.at 2 []) (order_3.v : NL Int))), (3, (.ref (.bx 3) 0 [] (.agg [(Enc.enc (w_1.a : List Int))]))), (6, (encO (.at 6 [0]) (r_50.1 : NL Int))), (7, (.bool true)), (21, (.int .i64 (w_1.a.length : Int))), (22, (.int .i64 t22_20))] ⟨(hg_20 1 (.int .i64 width_2) (.int .i64 width_2) h1 rfl), (hg_20 2 (encO (.at 2 []) (order_3.v : NL Int)) (encO (.at 2 []) (order_3.v : NL Int)) h2 (map_encO (r := 2) (p := []) rfl rfl)), (hg_20 3 (.ref (.bx 3) 0 [] (.agg [(Enc.enc (w_1.a : List Int))])) (.ref (.bx 3) 0 [] (.agg [(Enc.enc (w_1.a : List Int))])) h3 (map_bx rfl (map_agg (maps_cons (Enc.map_enc _ (w_1.a : List Int)) maps_nil)))), (hg_20 6 (encO (.at 11 [0]) (r_50.1 : NL Int)) (encO (.at 6 [0]) (r_50.1 : NL Int)) rfl (map_encO (r := 11) (p := [0]) rfl rfl)), (hg_20 7 (.bool true) (.bool true) rfl rfl), (hg_20 21 (.int .i64 (w_1.a.length : Int)) (.int .i64 (w_1.a.length : Int)) h21 rfl), (hg_20 22 (.int .i64 t22_20) (.int .i64 t22_20) h22 rfl)⟩ ?_
        rintro s ⟨h1, h2, h3, h6, h7, h21, h22⟩
        refine .nsq ?_
        refine .ret ?_
        have hr := Option.some.inj h
        subst hr
        exact rrB (res_tmp h6) (res_tmp h7) (fin_retO (finO_tup (finOs_cons (finO_own (o := (r_50.1 : NL Int))) (finOs_cons finO_bool finOs_nil))) rfl (mine_tup (mines_cons (mine_own rfl) (mines_cons rfl mines_nil))))
      · refine .skip ?_
        refine .nbk ?_
        refine .nsq ?_
        refine run_reg ?_
        refine e_end ?_
        refine g_v1 (t := 22) (u := (.int .i64 t22_20)) (.int .i64 (w64 (t22_20 + 1))) h22 rfl rfl ?_
        refine g_v1 (t := 63) (u := (.int .i64 (w64 (t22_20 + 1)))) (.int .i64 (w64 (t22_20 + 1))) rfl rfl rfl ?_
        refine g_end ?_
        refine e_end ?_
        refine renew [(1, (.int .i64 width_2)), (2, (encO (.at 2 []) (order_3.v : NL Int))), (3, (.ref (.bx 3) 0 [] (.agg [(Enc.enc (w_1.a : List Int))]))), (6, (.sl .nl (Enc.shp Int) 0 [])), (7, (.bool false)), (21, (.int .i64 (w_1.a.length : Int))), (22, (.int .i64 (w64 (t22_20 + 1))))] ⟨h1, h2, h3, h6, h7, h21, rfl⟩ ?_
        rintro s ⟨h1, h2, h3, h6, h7, h21, h22⟩
        refine .nlp ?_
        exact Hc1 (w64 (t22_20 + 1)) _ ⟨h1, h2, h3, h6, h7, h21, h22⟩ h
def i_net_narrowLayout_o_l1 (F : Nat) (rc : (S1 (List Int)) → Int → (On Int) → Option ((NL Int) × Bool)) (width_2 : Int) (order_3 : (On Int)) (w_1 : (S1 (List Int))) (t22_20 : Int) (c1 : Int → Option ((NL Int) × Bool)) : Nat → Bool → Int → Option ((NL Int) × Bool)
  | 0, _, _ => none
  | k + 1, fits_40, i_41 =>
    bif decide (i_41 < (w64 ((order_3.v.list.length : Int) - width_2))) then
      i_net_narrowLayout_o_j1 F rc width_2 order_3 w_1 t22_20 fits_40 i_41 c1 (i_net_narrowLayout_o_l1 F rc width_2 order_3 w_1 t22_20 c1 k) fits_40
    else
      i_net_narrowLayout_o_j1 F rc width_2 order_3 w_1 t22_20 fits_40 i_41 c1 (i_net_narrowLayout_o_l1 F rc width_2 order_3 w_1 t22_20 c1 k) false
theorem t_f80o_l1 (H : H80o D σ F rc) (width_2 : Int) (order_3 : (On Int)) (w_1 : (S1 (List Int))) (t22_20 : Int) (c1 : Int → Option ((NL Int) × Bool)) (Hc1 : ∀ (t22_20 : Int) (s : Nat → V), Facts [(1, (.int .i64 width_2)), (2, (encO (.at 2 []) (order_3.v : NL Int))), (3, (.ref (.bx 3) 0 [] (.agg [(Enc.enc (w_1.a : List Int))]))), (6, (.sl .nl (Enc.shp Int) 0 [])), (7, (.bool false)), (21, (.int .i64 (w_1.a.length : Int))), (22, (.int .i64 t22_20))] s → c1 t22_20 = some r → Run D σ (R80o r) (.run A80o_1 [.lp A80o_1, .bk 0, .sq A80o_17]) s) : ∀ (k : Nat) (fits_40 : Bool) (i_41 : Int) (s : Nat → V), Facts [(1, (.int .i64 width_2)), (2, (encO (.at 2 []) (order_3.v : NL Int))), (3, (.ref (.bx 3) 0 [] (.agg [(Enc.enc (w_1.a : List Int))]))), (6, (.sl .nl (Enc.shp Int) 0 [])), (7, (.bool false)), (8, (.int .i64 t22_20)), (9, (.bool fits_40)), (10, (.int .i64 i_41)), (21, (.int .i64 (w_1.a.length : Int))), (22, (.int .i64 t22_20))] s → i_net_narrowLayout_o_l1 F rc width_2 order_3 w_1 t22_20 c1 k fits_40 i_41 = some r → Run D σ (R80o r) (.run A80o_7 [.lp A80o_7, .bk 2, .sq A80o_11, .bk 1, .sq A80o_16, .lp A80o_1, .bk 0, .sq A80o_17]) s := by
  intro k
  induction k with
  | zero => intro fits_40 i_41 s _ h; exact nomatch (h : (none : Option _) = some r)
  | succ k ih =>
    intro fits_40 i_41 s hs h
    rw [i_net_narrowLayout_o_l1] at h
    obtain ⟨h1, h2, h3, h6, h7, h8, h9, h10, h21, h22⟩ := hs
    refine .seq ?_
    refine .seq ?_
    refine run_reg ?_
    refine e_end ?_
    refine g_v1 (t := 10) (u := (.int .i64 i_41)) (.int .i64 i_41) h10 rfl rfl ?_
    refine g_v (encO (.at 2 []) (order_3.v : NL Int)) (ev_mov h2 ok_encO) ?_
    refine g_v (.int .i64 (order_3.v.list.length : Int)) (ev_lenO (o := order_3.v) rfl) ?_
    refine g_v1 (t := 1) (u := (.int .i64 width_2)) (.int .i64 width_2) h1 rfl rfl ?_
    refine g_v2 (t1 := 31) (t2 := 32) (u1 := (.int .i64 (order_3.v.list.length : Int))) (u2 := (.int .i64 width_2)) (.int .i64 (w64 ((order_3.v.list.length : Int) - width_2))) rfl rfl rfl rfl ?_
    refine g_v2 (t1 := 29) (t2 := 33) (u1 := (.int .i64 i_41)) (u2 := (.int .i64 (w64 ((order_3.v.list.length : Int) - width_2)))) (.bool (decide (i_41 < (w64 ((order_3.v.list.length : Int) - width_2))))) rfl rfl rfl rfl ?_
    refine g_v1 (t := 34) (u := (.bool (decide (i_41 < (w64 ((order_3.v.list.length : Int) - width_2)))))) (.bool (decide (i_41 < (w64 ((order_3.v.list.length : Int) - width_2))))) rfl rfl rfl ?_
    refine split_on (c := decide (i_41 < (w64 ((order_3.v.list.length : Int) - width_2)))) h (fun hg7 h => ?_) (fun hg7 h => ?_)
    · refine g_yes (Eq.trans (b := .bool (decide (i_41 < (w64 ((order_3.v.list.length : Int) - width_2))))) rfl (congrArg V.bool hg7)) (g_v1 (t := 9) (u := (.bool fits_40)) (.bool fits_40) h9 rfl rfl ?_)
      refine g_v2 (t1 := 35) (t2 := 36) (u1 := (.bool true)) (u2 := (.bool fits_40)) (.bool fits_40) (Eq.trans (b := .bool (decide (i_41 < (w64 ((order_3.v.list.length : Int) - width_2))))) rfl (congrArg V.bool hg7)) rfl rfl rfl ?_
      refine g_end ?_
      refine e_end ?_
      refine renew [(1, (.int .i64 width_2)), (2, (encO (.at 2 []) (order_3.v : NL Int))), (3, (.ref (.bx 3) 0 [] (.agg [(Enc.enc (w_1.a : List Int))]))), (6, (.sl .nl (Enc.shp Int) 0 [])), (7, (.bool false)), (8, (.int .i64 t22_20)), (9, (.bool fits_40)), (10, (.int .i64 i_41)), (21, (.int .i64 (w_1.a.length : Int))), (22, (.int .i64 t22_20)), (37, (.bool fits_40))] ⟨h1, h2, h3, h6, h7, h8, h9, h10, h21, h22, rfl⟩ ?_
      rintro s ⟨h1, h2, h3, h6, h7, h8, h9, h10, h21, h22, h37⟩
      exact t_f80o_j1 H width_2 order_3 w_1 t22_20 fits_40 i_41 c1 Hc1 (i_net_narrowLayout_o_l1 F rc width_2 order_3 w_1 t22_20 c1 k) ih fits_40 _ ⟨h1, h2, h3, h6, h7, h8, h9, h10, h21, h22, h37⟩ h
    · refine g_no (Eq.trans (b := .bool (decide (i_41 < (w64 ((order_3.v.list.length : Int) - width_2))))) rfl (congrArg V.bool hg7)) ?_
      refine g_v2 (t1 := 35) (t2 := 36) (u1 := (.bool false)) (u2 := (.tup [])) (.bool false) (Eq.trans (b := .bool (decide (i_41 < (w64 ((order_3.v.list.length : Int) - width_2))))) rfl (congrArg V.bool hg7)) rfl rfl rfl ?_
      refine g_end ?_
      refine e_end ?_
      refine renew [(1, (.int .i64 width_2)), (2, (encO (.at 2 []) (order_3.v : NL Int))), (3, (.ref (.bx 3) 0 [] (.agg [(Enc.enc (w_1.a : List Int))]))), (6, (.sl .nl (Enc.shp Int) 0 [])), (7, (.bool false)), (8, (.int .i64 t22_20)), (9, (.bool fits_40)), (10, (.int .i64 i_41)), (21, (.int .i64 (w_1.a.length : Int))), (22, (.int .i64 t22_20)), (37, (.bool false))] ⟨h1, h2, h3, h6, h7, h8, h9, h10, h21, h22, rfl⟩ ?_
      rintro s ⟨h1, h2, h3, h6, h7, h8, h9, h10, h21, h22, h37⟩
      exact t_f80o_j1 H width_2 order_3 w_1 t22_20 fits_40 i_41 c1 Hc1 (i_net_narrowLayout_o_l1 F rc width_2 order_3 w_1 t22_20 c1 k) ih false _ ⟨h1, h2, h3, h6, h7, h8, h9, h10, h21, h22, h37⟩ h
def i_net_narrowLayout_o_l2 (F : Nat) (rc : (S1 (List Int)) → Int → (On Int) → Option ((NL Int) × Bool)) (width_2 : Int) (order_3 : (On Int)) (w_1 : (S1 (List Int)))  : Nat → Int → Option ((NL Int) × Bool)
  | 0, _ => none
  | k + 1, t22_20 =>
    bif decide (t22_20 < (w_1.a.length : Int)) then
      (slices_Contains F order_3.v.list t22_20).bind fun r_36 =>
      i_net_narrowLayout_o_l1 F rc width_2 order_3 w_1 t22_20 (i_net_narrowLayout_o_l2 F rc width_2 order_3 w_1 k) F (!r_36) 0
    else
      some (.nil, false)
theorem t_f80o_l2 (H : H80o D σ F rc) (width_2 : Int) (order_3 : (On Int)) (w_1 : (S1 (List Int)))  : ∀ (k : Nat) (t22_20 : Int) (s : Nat → V), Facts [(1, (.int .i64 width_2)), (2, (encO (.at 2 []) (order_3.v : NL Int))), (3, (.ref (.bx 3) 0 [] (.agg [(Enc.enc (w_1.a : List Int))]))), (6, (.sl .nl (Enc.shp Int) 0 [])), (7, (.bool false)), (21, (.int .i64 (w_1.a.length : Int))), (22, (.int .i64 t22_20))] s → i_net_narrowLayout_o_l2 F rc width_2 order_3 w_1 k t22_20 = some r → Run D σ (R80o r) (.run A80o_1 [.lp A80o_1, .bk 0, .sq A80o_17]) s := by
  intro k
  induction k with
  | zero => intro t22_20 s _ h; exact nomatch (h : (none : Option _) = some r)
  | succ k ih =>
    intro t22_20 s hs h
    rw [i_net_narrowLayout_o_l2] at h
    obtain ⟨h1, h2, h3, h6, h7, h21, h22⟩ := hs
    refine .seq ?_
    refine run_reg ?_
    refine e_end ?_
    refine g_v2 (t1 := 22) (t2 := 21) (u1 := (.int .i64 t22_20)) (u2 := (.int .i64 (w_1.a.length : Int))) (.bool (decide (t22_20 < (w_1.a.length : Int)))) h22 h21 rfl rfl ?_
    refine g_end ?_
    refine e_end ?_
    refine renew [(1, (.int .i64 width_2)), (2, (encO (.at 2 []) (order_3.v : NL Int))), (3, (.ref (.bx 3) 0 [] (.agg [(Enc.enc (w_1.a : List Int))]))), (6, (.sl .nl (Enc.shp Int) 0 [])), (7, (.bool false)), (21, (.int .i64 (w_1.a.length : Int))), (22, (.int .i64 t22_20)), (23, (.bool (decide (t22_20 < (w_1.a.length : Int)))))] ⟨h1, h2, h3, h6, h7, h21, h22, rfl⟩ ?_
    rintro s ⟨h1, h2, h3, h6, h7, h21, h22, h23⟩
    refine .nsq ?_
    refine .seq ?_
    refine run_cond (t := decide (t22_20 < (w_1.a.length : Int))) h23 h (fun h => ?_) (fun h => ?_)
    · refine .skip ?_
      refine .nsq ?_
      refine .seq ?_
      refine .block ?_
      refine .seq ?_
      refine run_reg ?_
      refine e_end ?_
      refine g_v1 (t := 22) (u := (.int .i64 t22_20)) (.int .i64 t22_20) h22 rfl rfl ?_
      refine g_v1 (t := 24) (u := (.int .i64 t22_20)) (.int .i64 t22_20) rfl rfl rfl ?_
      refine g_end ?_
      refine e_end ?_
      refine renew [(1, (.int .i64 width_2)), (2, (encO (.at 2 []) (order_3.v : NL Int))), (3, (.ref (.bx 3) 0 [] (.agg [(Enc.enc (w_1.a : List Int))]))), (6, (.sl .nl (Enc.shp Int) 0 [])), (7, (.bool false)), (8, (.int .i64 t22_20)), (21, (.int .i64 (w_1.a.length : Int))), (22, (.int .i64 t22_20))] ⟨h1, h2, h3, h6, h7, rfl, h21, h22⟩ ?_
      rintro s ⟨h1, h2, h3, h6, h7, h8, h21, h22⟩
      refine .nsq ?_
      refine .seq ?_
      refine run_reg ?_
      refine e_end ?_
      refine g_v (encO (.at 2 []) (order_3.v : NL Int)) (ev_mov h2 ok_encO) ?_
      refine g_v1 (t := 8) (u := (.int .i64 t22_20)) (.int .i64 t22_20) h8 rfl rfl ?_
      obtain ⟨r_36, E_r_36, h⟩ := bind_some h
      refine g_call (m := 0) (al := false) (r := (Enc.enc (r_36 : Bool))) [Enc.enc (order_3.v.list : (List Int)), Enc.enc (t22_20 : Int)] (ta_cons (v := (encO (.at 2 []) (order_3.v : NL Int))) rfl ok_encP (erase_encO (o := order_3.v)) (ta_cons (v := (.int .i64 t22_20)) rfl rfl rfl ta_nil)) (H.c117 _ _ _ E_r_36) H.g117 rfl rfl rfl rfl ?_
      refine g_v1 (t := 27) (u := (.bool r_36)) (.bool (!r_36)) rfl rfl rfl ?_
      refine g_v1 (t := 28) (u := (.bool (!r_36))) (.bool (!r_36)) rfl rfl rfl ?_
      refine g_end ?_
      refine e_end ?_
      refine renew [(1, (.int .i64 width_2)), (2, (encO (.at 2 []) (order_3.v : NL Int))), (3, (.ref (.bx 3) 0 [] (.agg [(Enc.enc (w_1.a : List Int))]))), (6, (.sl .nl (Enc.shp Int) 0 [])), (7, (.bool false)), (8, (.int .i64 t22_20)), (9, (.bool (!r_36))), (21, (.int .i64 (w_1.a.length : Int))), (22, (.int .i64 t22_20))] ⟨h1, h2, h3, h6, h7, h8, rfl, h21, h22⟩ ?_
      rintro s ⟨h1, h2, h3, h6, h7, h8, h9, h21, h22⟩
      refine .nsq ?_
      refine .seq ?_
      refine .seq ?_
      refine run_reg ?_
      refine e_end ?_
      refine g_v0 (.int .i64 0) rfl rfl ?_
      refine g_end ?_
      refine e_end ?_
      refine renew [(1, (.int .i64 width_2)), (2, (encO (.at 2 []) (order_3.v : NL Int))), (3, (.ref (.bx 3) 0 [] (.agg [(Enc.enc (w_1.a : List Int))]))), (6, (.sl .nl (Enc.shp Int) 0 [])), (7, (.bool false)), (8, (.int .i64 t22_20)), (9, (.bool (!r_36))), (10, (.int .i64 0)), (21, (.int .i64 (w_1.a.length : Int))), (22, (.int .i64 t22_20))] ⟨h1, h2, h3, h6, h7, h8, h9, rfl, h21, h22⟩ ?_
      rintro s ⟨h1, h2, h3, h6, h7, h8, h9, h10, h21, h22⟩
      refine .nsq ?_
      refine .block ?_
      refine .loop ?_
      exact t_f80o_l1 H width_2 order_3 w_1 t22_20 (i_net_narrowLayout_o_l2 F rc width_2 order_3 w_1 k) ih F (!r_36) 0 _ ⟨h1, h2, h3, h6, h7, h8, h9, h10, h21, h22⟩ h
    · refine .exit ?_
      refine .esq ?_
      refine .elp ?_
      refine .ebk ?_
      refine .nsq ?_
      refine .seq ?_
      refine run_reg ?_
      refine e_end ?_
      refine g_v0 (.sl .nl (Enc.shp Int) 0 []) rfl rfl ?_
      refine g_v0 (.bool false) rfl rfl ?_
      refine g_end ?_
      refine e_end ?_
      refine renew [(6, (.sl .nl (Enc.shp Int) 0 [])), (7, (.bool false))] ⟨rfl, rfl⟩ ?_
      rintro s ⟨h6, h7⟩
      refine .nsq ?_
      refine .ret ?_
      have hr := Option.some.inj h
      subst hr
      exact rrB (res_tmp h6) (res_tmp h7) (fin_retO (finO_tup (finOs_cons (finO_nil (α := Int)) (finOs_cons finO_bool finOs_nil))) rfl (mine_tup (mines_cons mine_nil (mines_cons rfl mines_nil))))
def i_net_narrowLayout_o_b (F : Nat) (rc : (S1 (List Int)) → Int → (On Int) → Option ((NL Int) × Bool)) (w_1 : (S1 (List Int))) (width_2 : Int) (order_3 : (On Int)) : Option ((NL Int) × Bool) :=
  (i_net_size F w_1).bind fun r_4 =>
  bif ((order_3.v.list.length : Int) == r_4) then
    some (order_3.v, true)
  else
    i_net_narrowLayout_o_l2 F rc width_2 order_3 w_1 F 0
theorem t80o (H : H80o D σ F rc) (w_1 : (S1 (List Int))) (width_2 : Int) (order_3 : (On Int)) (s : Nat → V) (hs : Facts [(0, (.agg [(Enc.enc (w_1.a : List Int))])), (1, (.int .i64 width_2)), (2, (encO (.at pinR []) (order_3.v : NL Int)))] s) (h : i_net_narrowLayout_o_b F rc w_1 width_2 order_3 = some r) : Run D σ (R80o r) (.run A80o []) s := by
  unfold i_net_narrowLayout_o_b at h
  obtain ⟨h0, h1, h2⟩ := hs
  refine .seq ?_
  refine run_reg ?_
  refine e_clr ?_
  refine e_end ?_
  refine g_box (.agg [(Enc.enc (w_1.a : List Int))]) (rd_of (keep_clear (s := s) (pk := [3]) h0 rfl (map_agg (maps_cons (Enc.map_enc _ (w_1.a : List Int)) maps_nil))) rfl) (gone_clear (s := s) (pk := [3]) (t := 3) rfl) rfl ?_
  refine g_v0 (.sl .nl (Enc.shp Int) 0 []) rfl rfl ?_
  refine g_v0 (.bool false) rfl rfl ?_
  refine g_end ?_
  refine e_home (r := pinR) (x := 2) (v := (encO (.at pinR []) (order_3.v : NL Int))) (by exact (keep_clear (s := s) (pk := [3]) h2 rfl (map_encO (r := pinR) (p := []) rfl rfl))) ok_encO (fun s_2 hg_2 => ?_)
  refine e_end ?_
  refine renew [(1, (.int .i64 width_2)), (2, (encO (.at 2 []) (order_3.v : NL Int))), (3, (.ref (.bx 3) 0 [] (.agg [(Enc.enc (w_1.a : List Int))]))), (6, (.sl .nl (Enc.shp Int) 0 [])), (7, (.bool false))] ⟨(hg_2 1 (.int .i64 width_2) (.int .i64 width_2) (keep_clear (s := s) (pk := [3]) h1 rfl rfl) rfl), (hg_2 2 (encO (.at pinR []) (order_3.v : NL Int)) (encO (.at 2 []) (order_3.v : NL Int)) (keep_clear (s := s) (pk := [3]) h2 rfl (map_encO (r := pinR) (p := []) rfl rfl)) (map_encO (r := pinR) (p := []) rfl rfl)), (hg_2 3 (.ref (.bx 3) 0 [] (.agg [(Enc.enc (w_1.a : List Int))])) (.ref (.bx 3) 0 [] (.agg [(Enc.enc (w_1.a : List Int))])) rfl (map_bx rfl (map_agg (maps_cons (Enc.map_enc _ (w_1.a : List Int)) maps_nil)))), (hg_2 6 (.sl .nl (Enc.shp Int) 0 []) (.sl .nl (Enc.shp Int) 0 []) rfl rfl), (hg_2 7 (.bool false) (.bool false) rfl rfl)⟩ ?_
  rintro s ⟨h1, h2, h3, h6, h7⟩
  refine .nsq ?_
  refine .seq ?_
  refine .seq ?_
  refine run_reg ?_
  refine e_end ?_
  refine g_v (encO (.at 2 []) (order_3.v : NL Int)) (ev_mov h2 ok_encO) ?_
  refine g_v (.int .i64 (order_3.v.list.length : Int)) (ev_lenO (o := order_3.v) rfl) ?_
  refine g_v1 (t := 3) (u := (.ref (.bx 3) 0 [] (.agg [(Enc.enc (w_1.a : List Int))]))) (.agg [(Enc.enc (w_1.a : List Int))]) h3 rfl rfl ?_
  obtain ⟨r_4, E_r_4, h⟩ := bind_some h
  refine g_call (m := 0) (al := false) (r := (Enc.enc (r_4 : Int))) [Enc.enc (w_1 : (S1 (List Int)))] (ta_cons (v := (.agg [(Enc.enc (w_1.a : List Int))])) rfl rfl (Enc.erase_enc (w_1 : (S1 (List Int)))) ta_nil) (H.c116 _ _ E_r_4) H.g116 rfl rfl rfl rfl ?_
  refine g_v2 (t1 := 14) (t2 := 16) (u1 := (.int .i64 (order_3.v.list.length : Int))) (u2 := (.int .i64 r_4)) (.bool ((order_3.v.list.length : Int) == r_4)) rfl rfl rfl rfl ?_
  refine g_end ?_
  refine e_end ?_
  refine renew [(1, (.int .i64 width_2)), (2, (encO (.at 2 []) (order_3.v : NL Int))), (3, (.ref (.bx 3) 0 [] (.agg [(Enc.enc (w_1.a : List Int))]))), (6, (.sl .nl (Enc.shp Int) 0 [])), (7, (.bool false)), (17, (.bool ((order_3.v.list.length : Int) == r_4)))] ⟨h1, h2, h3, h6, h7, rfl⟩ ?_
  rintro s ⟨h1, h2, h3, h6, h7, h17⟩
  refine .nsq ?_
  refine run_cond (t := ((order_3.v.list.length : Int) == r_4)) h17 h (fun h => ?_) (fun h => ?_)
  · refine .seq ?_
    refine run_reg ?_
    refine e_end ?_
    refine g_v (encO (.at 2 []) (order_3.v : NL Int)) (ev_mov h2 ok_encO) ?_
    refine g_v (encO (.at 2 []) (order_3.v : NL Int)) (ev_mov rfl ok_encO) ?_
    refine g_v0 (.bool true) rfl rfl ?_
    refine g_end ?_
    refine e_end ?_
    refine renew [(1, (.int .i64 width_2)), (2, (encO (.at 2 []) (order_3.v : NL Int))), (3, (.ref (.bx 3) 0 [] (.agg [(Enc.enc (w_1.a : List Int))]))), (6, (encO (.at 2 []) (order_3.v : NL Int))), (7, (.bool true))] ⟨h1, h2, h3, rfl, rfl⟩ ?_
    rintro s ⟨h1, h2, h3, h6, h7⟩
    refine .nsq ?_
    refine .ret ?_
    have hr := Option.some.inj h
    subst hr
    exact rrB (res_tmp h6) (res_tmp h7) (fin_retO (finO_tup (finOs_cons (finO_own (o := (order_3.v : NL Int))) (finOs_cons finO_bool finOs_nil))) rfl (mine_tup (mines_cons (mine_own rfl) (mines_cons rfl mines_nil))))
  · refine .skip ?_
    refine .nsq ?_
    refine .seq ?_
    refine .seq ?_
    refine run_reg ?_
    refine e_end ?_
    refine g_v1 (t := 3) (u := (.ref (.bx 3) 0 [] (.agg [(Enc.enc (w_1.a : List Int))]))) (.ref (.bx 3) 0 [0] (Enc.enc (w_1.a : List Int))) h3 rfl rfl ?_
    refine g_v1 (t := 19) (u := (.ref (.bx 3) 0 [0] (Enc.enc (w_1.a : List Int)))) (Enc.enc (w_1.a : List Int)) rfl rfl rfl ?_
    refine g_v (.int .i64 (w_1.a.length : Int)) (ev_len (xs := w_1.a) rfl) ?_
    refine g_v0 (.int .i64 0) rfl rfl ?_
    refine g_end ?_
    refine e_end ?_
    refine renew [(1, (.int .i64 width_2)), (2, (encO (.at 2 []) (order_3.v : NL Int))), (3, (.ref (.bx 3) 0 [] (.agg [(Enc.enc (w_1.a : List Int))]))), (6, (.sl .nl (Enc.shp Int) 0 [])), (7, (.bool false)), (21, (.int .i64 (w_1.a.length : Int))), (22, (.int .i64 0))] ⟨h1, h2, h3, h6, h7, rfl, rfl⟩ ?_
    rintro s ⟨h1, h2, h3, h6, h7, h21, h22⟩
    refine .nsq ?_
    refine .block ?_
    refine .loop ?_
    exact t_f80o_l2 H width_2 order_3 w_1 F 0 _ ⟨h1, h2, h3, h6, h7, h21, h22⟩ h
end
def i_net_narrowLayout_o_r (F : Nat) : Nat → (S1 (List Int)) → Int → (On Int) → Option ((NL Int) × Bool)
  | 0, _, _, _ => none
  | k + 1, x0, x1, x2 => i_net_narrowLayout_o_b F (i_net_narrowLayout_o_r F k) x0 x1 x2
def i_net_narrowLayout_o (F : Nat) (x0 : (S1 (List Int))) (x1 : Int) (x2 : (On Int)) : Option ((NL Int) × Bool) := i_net_narrowLayout_o_r F F x0 x1 x2
def e80o (F : Nat) (k : Nat) : Ent := ⟨1000000080, da (fun (x : ((S1 (List Int)) × Int × (On Int) × Unit)) => i_net_narrowLayout_o_r F k x.1 x.2.1 x.2.2.1) (fun (r : ((NL Int) × Bool)) => (.tup [(encO .sh (r.1 : NL Int)), (Enc.enc (r.2 : Bool))])), giveM, false, selF []⟩
theorem p80o {F : Nat} {k : Nat} {x0 : (S1 (List Int))} {x1 : Int} {x2 : (On Int)} {r : ((NL Int) × Bool)} (h : i_net_narrowLayout_o_r F k x0 x1 x2 = some r) : (e80o F k).den [Enc.enc x0, Enc.enc x1, Arg.arg x2] = some (.tup [(encO .sh (r.1 : NL Int)), (Enc.enc (r.2 : Bool))]) := da_put (f := fun (x : ((S1 (List Int)) × Int × (On Int) × Unit)) => i_net_narrowLayout_o_r F k x.1 x.2.1 x.2.2.1) (t := fun (r : ((NL Int) × Bool)) => (.tup [(encO .sh (r.1 : NL Int)), (Enc.enc (r.2 : Bool))])) (x0, x1, x2, ()) h
theorem z80o {F : Nat} : (e80o F 0).Ok Try.prog := by
  refine ok_of (f := 80) (show unk 1000000080 = 80 from rfl) (fun args r h => ?_) ⟨Try.f80, Try.func80, rfl, rfl⟩
  obtain ⟨⟨x0, x1, x2, _⟩, y, rfl, hy, rfl⟩ := da_open h
  cases hy
theorem o80o {D : Den} {σ : Sig} {F k : Nat} (hF : Fits2 Try.prog D σ) (H : H80o D σ F (i_net_narrowLayout_o_r F k)) : (e80o F (k + 1)).Ok Try.prog := by
  refine ok_of (f := 80) (show unk 1000000080 = 80 from rfl) (fun args r h => ?_) ⟨Try.f80, Try.func80, rfl, rfl⟩
  obtain ⟨⟨x0, x1, x2, _⟩, y, rfl, hy, rfl⟩ := da_open h
  exact contractG_run hF (by kernel_rfl) Try.func80 rfl c80o (all_okc rfl (all_okc rfl (all_okc ok_encP rfl))) (show 3 ≤ Try.f80.ntmps by decide) (by decide) (t80o H x0 x1 x2 _ ⟨rfl, rfl, rfl⟩ hy)
end Go.Zq
