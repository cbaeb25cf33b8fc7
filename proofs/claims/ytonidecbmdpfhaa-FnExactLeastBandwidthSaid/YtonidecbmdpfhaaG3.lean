/- Functions of the program as typed functions, and that the machine runs as they say (part 3). No further condition. -/
import Derived.Test.YtonidecbmdpfhaaK3
import Derived.Test.YtonidecbmdpfhaaKC
import Derived.Test.YtonidecbmdpfhaaProg
import Derived.Test.YtonidecbmdpfhaaChecked
import Derived.KernelRfl
import Derived.Test.YtonidecbmdpfhaaG2
set_option linter.unusedVariables false
set_option linter.unusedSimpArgs false
/- Functions of the program, as typed functions, and that the machine runs as they say. -/
namespace Go.Zq
open Go.Proofs Go.Shelf
/- loop.example/g01109/impl.LeastBandwidth -/
def A36o_3 : AC := (AC.cond (O.t 22) (AC.seq (AC.reg [] [(I.mk (some 23) none false (X.v (A.mov (O.t 7)))), (I.mk (some 24) none false (X.v (A.mov (O.t 6)))), (I.mk (some 2) none false (X.v (A.mov (O.t 23)))), (I.mk (some 3) none false (X.v (A.mov (O.t 24)))), (I.mk (some 4) none false (X.v (A.mov (O.k (V.bool true)))))] [.home 7 2]) AC.ret) AC.skip)
def A36o_2 : AC := (AC.seq (AC.reg [] [(I.mk (some 22) none false (X.v (A.mov (O.t 8))))] []) A36o_3)
def A36o_4 : AC := (AC.reg [] [(I.mk (some 14) none false (X.v (A.mov (O.t 6)))), (I.mk (some 15) none false (X.v (A.bin BinOp.add (O.t 14) (O.k (V.int IntKind.i64 (Int.ofNat 1)))))), (I.mk (some 6) none false (X.v (A.mov (O.t 15))))] [])
def A36o_1 : AC := (AC.seq (AC.block 1 (AC.seq (AC.reg [.clr [19]] [(I.mk (some 17) none false (X.v (A.load (Sh.ag [Sh.p]) (O.t 5)))), (I.mk (some 18) none false (X.v (A.mov (O.t 6)))), (I.mk (some 19) none false (X.callG (O.k (V.fn 80 [] [])) 2 [(O.t 17), (O.t 18), (O.k (V.sl Tok.nl Sh.s 0 []))])), (I.mk (some 16) none false (X.v (A.mov (O.t 19)))), (I.mk (some 20) none false (X.v (A.ext (O.t 16) 0))), (I.mk (some 21) none false (X.v (A.extS (O.t 16) 1))), (I.mk (some 7) none false (X.v (A.mov (O.t 20)))), (I.mk (some 8) none false (X.v (A.mov (O.t 21))))] [.home 19 7]) A36o_2)) A36o_4)
def A36o_6 : AC := (AC.cond (O.t 11) (AC.seq (AC.reg [] [(I.mk (some 2) none false (X.v (A.mov (O.k (V.sl Tok.nl Sh.s 0 []))))), (I.mk (some 3) none false (X.v (A.mov (O.k (V.int IntKind.i64 (Int.ofNat 0)))))), (I.mk (some 4) none false (X.v (A.mov (O.k (V.bool false)))))] []) AC.ret) AC.skip)
def A36o_9 : AC := (AC.block 0 (AC.loop A36o_1))
def A36o_8 : AC := (AC.seq (AC.reg [] [(I.mk (some 6) none false (X.v (A.mov (O.k (V.int IntKind.i64 (Int.ofNat 0))))))] []) A36o_9)
def A36o_7 : AC := (AC.seq (AC.reg [.clr [5]] [(I.mk (some 12) none false (X.v (A.load (Sh.ag [Sh.s, Sh.p]) (O.t 1)))), (I.mk (some 13) none false (X.call (O.k (V.fn 52 [] [])) [(O.t 12)])), (I.mk (some 5) none false (X.alloc (V.agg [(V.sl Tok.nl Sh.s 0 [])]))), (I.mk none none false (X.store (Sh.ag [Sh.p]) (O.t 5) (O.t 13)))] []) A36o_8)
def A36o_5 : AC := (AC.seq (AC.seq (AC.reg [] [(I.mk (some 9) none false (X.v (A.load (Sh.ag [Sh.s, Sh.p]) (O.t 1)))), (I.mk (some 10) none false (X.call (O.k (V.fn 51 [] [])) [(O.t 9)])), (I.mk (some 11) none false (X.v (A.un UnOp.not (O.t 10))))] []) A36o_6) A36o_7)
def A36o : AC := (AC.seq (AC.reg [.clr [1]] [(I.mk (some 1) none false (X.box (O.t 0))), (I.mk (some 2) none false (X.v (A.mov (O.k (V.sl Tok.nl Sh.s 0 []))))), (I.mk (some 3) none false (X.v (A.mov (O.k (V.int IntKind.i64 (Int.ofNat 0)))))), (I.mk (some 4) none false (X.v (A.mov (O.k (V.bool false)))))] []) A36o_5)
def an36o : List An := [{ id := 0, pre := [.clr [1]], ep := [], lin := [], sp := [] }, { id := 3, pre := [.clr [5]], ep := [], lin := [], sp := [] }, { id := 6, pre := [.clr [19]], ep := [.home 19 7], lin := [], sp := [4002] }, { id := 8, pre := [], ep := [.home 7 2], lin := [], sp := [] }]
theorem c36o : cC Try.prog Try.f36.ntmps an36o (Try.f36.body.getD .skip) = some A36o := by kernel_rfl
structure H36o (D : Den) (σ : Sig) (F : Nat) : Prop where
  c51 : ∀ (x0 : (Int × (List (Int × Int)))) r, i_IsGraph F x0 = some r → D 51 [Enc.enc x0] = some (Enc.enc (r : Bool))
  g51 : σ 51 = some (0, false)
  c52 : ∀ (x0 : (Int × (List (Int × Int)))) r, i_netOf F x0 = some r → D 52 [Enc.enc x0] = some (Enc.enc (r : (S1 (List Int))))
  g52 : σ 52 = some (0, false)
  c80o : ∀ (x0 : (S1 (List Int))) (x1 : Int) (x2 : (On Int)) r, i_net_narrowLayout_o F x0 x1 x2 = some r → D 1000000080 [Enc.enc x0, Enc.enc x1, Arg.arg x2] = some (.tup [(encO .sh (r.1 : NL Int)), (Enc.enc (r.2 : Bool))])
  g80o : σ 1000000080 = some (giveM, false)
abbrev R36o (r : (S3 (NL Int) Int Bool)) : (Nat → V) → Prop := RR Try.prog [.tmp 2, .tmp 3, .tmp 4] 1 false (.tup [(encO .sh (r.a : NL Int)), (Enc.enc (r.b : Int)), (Enc.enc (r.c : Bool))])
section
variable {D : Den} {σ : Sig} {F : Nat} {r : (S3 (NL Int) Int Bool)}
def i_LeastBandwidth_o_l1 (F : Nat) (r_3 : (S1 (List Int)))  : Nat → Int → Option (S3 (NL Int) Int Bool)
  | 0, _ => none
  | k + 1, width_5 =>
    (i_net_narrowLayout_o F r_3 width_5 (On.mk .nil : On Int)).bind fun r_7 =>
    bif r_7.2 then
      some (S3.mk r_7.1 width_5 true)
    else
      (i_LeastBandwidth_o_l1 F r_3 k) (w64 (width_5 + 1))
theorem t_f36o_l1 (H : H36o D σ F) (r_3 : (S1 (List Int)))  : ∀ (k : Nat) (width_5 : Int) (s : Nat → V), Facts [(2, (.sl .nl (Enc.shp Int) 0 [])), (3, (.int .i64 0)), (4, (.bool false)), (5, (.ref (.bx 5) 0 [] (.agg [(Enc.enc (r_3.a : List Int))]))), (6, (.int .i64 width_5))] s → i_LeastBandwidth_o_l1 F r_3 k width_5 = some r → Run D σ (R36o r) (.run A36o_1 [.lp A36o_1, .bk 0]) s := by
  intro k
  induction k with
  | zero => intro width_5 s _ h; exact nomatch (h : (none : Option _) = some r)
  | succ k ih =>
    intro width_5 s hs h
    rw [i_LeastBandwidth_o_l1] at h
    obtain ⟨h2, h3, h4, h5, h6⟩ := hs
    refine .seq ?_
    refine .block ?_
    refine .seq ?_
    refine run_reg ?_
    refine e_clr ?_
    refine e_end ?_
    refine g_v1 (t := 5) (u := (.ref (.bx 5) 0 [] (.agg [(Enc.enc (r_3.a : List Int))]))) (.agg [(Enc.enc (r_3.a : List Int))]) (keep_clear (s := s) (pk := [19]) h5 rfl (map_bx rfl (map_agg (maps_cons (Enc.map_enc _ (r_3.a : List Int)) maps_nil)))) rfl rfl ?_
    refine g_v1 (t := 6) (u := (.int .i64 width_5)) (.int .i64 width_5) (keep_clear (s := s) (pk := [19]) h6 rfl rfl) rfl rfl ?_
    obtain ⟨r_7, E_r_7, h⟩ := bind_some h
    refine g_callGn (α := Int) (r := (.tup [(encO .sh (r_7.1 : NL Int)), (Enc.enc (r_7.2 : Bool))])) (u := (.tup [(encO (.at 19 [0]) (r_7.1 : NL Int)), (.bool r_7.2)])) (kk := 1000000080) [Enc.enc (r_3 : (S1 (List Int))), Enc.enc (width_5 : Int), .bool true] rfl (by exact (ta_cons (v := (.agg [(Enc.enc (r_3.a : List Int))])) rfl rfl (Enc.erase_enc (r_3 : (S1 (List Int)))) (ta_cons (v := (.int .i64 width_5)) rfl rfl rfl (ta_cons (v := (.bool true)) rfl rfl rfl ta_nil)))) (by exact (H.c80o _ _ _ _ E_r_7)) H.g80o (toks_tup (tokss_cons toks_encS (tokss_cons rfl tokss_nil))) (tag_tup (tags_cons tag_encO (tags_cons rfl tags_nil))) rfl (gone_clear (s := s) (pk := [19]) (t := 19) rfl) (by decide) ?_
    refine g_v1 (t := 19) (u := (.tup [(encO (.at 19 [0]) (r_7.1 : NL Int)), (.bool r_7.2)])) (.tup [(encO (.at 19 [0]) (r_7.1 : NL Int)), (.bool r_7.2)]) rfl rfl rfl ?_
    refine g_v (encO (.at 19 [0]) (r_7.1 : NL Int)) (ev_extN (v := (encO (.at 19 [0]) (r_7.1 : NL Int))) rfl rfl ok_encP) ?_
    refine g_v1 (t := 16) (u := (.tup [(encO (.at 19 [0]) (r_7.1 : NL Int)), (.bool r_7.2)])) (.bool r_7.2) rfl rfl rfl ?_
    refine g_v (encO (.at 19 [0]) (r_7.1 : NL Int)) (ev_mov rfl ok_encO) ?_
    refine g_v1 (t := 21) (u := (.bool r_7.2)) (.bool r_7.2) rfl rfl rfl ?_
    refine g_end ?_
    refine e_home (r := 19) (x := 7) (v := (encO (.at 19 [0]) (r_7.1 : NL Int))) (by exact rfl) ok_encO (fun s_15 hg_15 => ?_)
    refine e_end ?_
    refine renew [(2, (.sl .nl (Enc.shp Int) 0 [])), (3, (.int .i64 0)), (4, (.bool false)), (5, (.ref (.bx 5) 0 [] (.agg [(Enc.enc (r_3.a : List Int))]))), (6, (.int .i64 width_5)), (7, (encO (.at 7 [0]) (r_7.1 : NL Int))), (8, (.bool r_7.2))] ⟨(hg_15 2 (.sl .nl (Enc.shp Int) 0 []) (.sl .nl (Enc.shp Int) 0 []) (keep_clear (s := s) (pk := [19]) h2 rfl rfl) rfl), (hg_15 3 (.int .i64 0) (.int .i64 0) (keep_clear (s := s) (pk := [19]) h3 rfl rfl) rfl), (hg_15 4 (.bool false) (.bool false) (keep_clear (s := s) (pk := [19]) h4 rfl rfl) rfl), (hg_15 5 (.ref (.bx 5) 0 [] (.agg [(Enc.enc (r_3.a : List Int))])) (.ref (.bx 5) 0 [] (.agg [(Enc.enc (r_3.a : List Int))])) (keep_clear (s := s) (pk := [19]) h5 rfl (map_bx rfl (map_agg (maps_cons (Enc.map_enc _ (r_3.a : List Int)) maps_nil)))) (map_bx rfl (map_agg (maps_cons (Enc.map_enc _ (r_3.a : List Int)) maps_nil)))), (hg_15 6 (.int .i64 width_5) (.int .i64 width_5) (keep_clear (s := s) (pk := [19]) h6 rfl rfl) rfl), (hg_15 7 (encO (.at 19 [0]) (r_7.1 : NL Int)) (encO (.at 7 [0]) (r_7.1 : NL Int)) rfl (map_encO (r := 19) (p := [0]) rfl rfl)), (hg_15 8 (.bool r_7.2) (.bool r_7.2) rfl rfl)⟩ ?_
    rintro s ⟨h2, h3, h4, h5, h6, h7, h8⟩
    refine .nsq ?_
    refine .seq ?_
    refine run_reg ?_
    refine e_end ?_
    refine g_v1 (t := 8) (u := (.bool r_7.2)) (.bool r_7.2) h8 rfl rfl ?_
    refine g_end ?_
    refine e_end ?_
    refine renew [(2, (.sl .nl (Enc.shp Int) 0 [])), (3, (.int .i64 0)), (4, (.bool false)), (5, (.ref (.bx 5) 0 [] (.agg [(Enc.enc (r_3.a : List Int))]))), (6, (.int .i64 width_5)), (7, (encO (.at 7 [0]) (r_7.1 : NL Int))), (22, (.bool r_7.2))] ⟨h2, h3, h4, h5, h6, h7, rfl⟩ ?_
    rintro s ⟨h2, h3, h4, h5, h6, h7, h22⟩
    refine .nsq ?_
    refine run_cond (t := r_7.2) h22 h (fun h => ?_) (fun h => ?_)
    · refine .seq ?_
      refine run_reg ?_
      refine e_end ?_
      refine g_v (encO (.at 7 [0]) (r_7.1 : NL Int)) (ev_mov h7 ok_encO) ?_
      refine g_v1 (t := 6) (u := (.int .i64 width_5)) (.int .i64 width_5) h6 rfl rfl ?_
      refine g_v (encO (.at 7 [0]) (r_7.1 : NL Int)) (ev_mov rfl ok_encO) ?_
      refine g_v1 (t := 24) (u := (.int .i64 width_5)) (.int .i64 width_5) rfl rfl rfl ?_
      refine g_v0 (.bool true) rfl rfl ?_
      refine g_end ?_
      refine e_home (r := 7) (x := 2) (v := (encO (.at 7 [0]) (r_7.1 : NL Int))) (by exact rfl) ok_encO (fun s_17 hg_17 => ?_)
      refine e_end ?_
      refine renew [(2, (encO (.at 2 [0]) (r_7.1 : NL Int))), (3, (.int .i64 width_5)), (4, (.bool true)), (5, (.ref (.bx 5) 0 [] (.agg [(Enc.enc (r_3.a : List Int))]))), (6, (.int .i64 width_5))] ⟨(hg_17 2 (encO (.at 7 [0]) (r_7.1 : NL Int)) (encO (.at 2 [0]) (r_7.1 : NL Int)) rfl (map_encO (r := 7) (p := [0]) rfl rfl)), (hg_17 3 (.int .i64 width_5) (.int .i64 width_5) rfl rfl), (hg_17 4 (.bool true) (.bool true) rfl rfl), (hg_17 5 (.ref (.bx 5) 0 [] (.agg [(Enc.enc (r_3.a : List Int))])) (.ref (.bx 5) 0 [] (.agg [(Enc.enc (r_3.a : List Int))])) h5 (map_bx rfl (map_agg (maps_cons (Enc.map_enc _ (r_3.a : List Int)) maps_nil)))), (hg_17 6 (.int .i64 width_5) (.int .i64 width_5) h6 rfl)⟩ ?_
      rintro s ⟨h2, h3, h4, h5, h6⟩
      refine .nsq ?_
      refine .ret ?_
      have hr := Option.some.inj h
      subst hr
      exact rrC (res_tmp h2) (res_tmp h3) (res_tmp h4) (fin_retO (finO_tup (finOs_cons (finO_own (o := (r_7.1 : NL Int))) (finOs_cons finO_int (finOs_cons finO_bool finOs_nil)))) rfl (mine_tup (mines_cons (mine_own rfl) (mines_cons rfl (mines_cons rfl mines_nil)))))
    · refine .skip ?_
      refine .nbk ?_
      refine .nsq ?_
      refine run_reg ?_
      refine e_end ?_
      refine g_v1 (t := 6) (u := (.int .i64 width_5)) (.int .i64 width_5) h6 rfl rfl ?_
      refine g_v1 (t := 14) (u := (.int .i64 width_5)) (.int .i64 (w64 (width_5 + 1))) rfl rfl rfl ?_
      refine g_v1 (t := 15) (u := (.int .i64 (w64 (width_5 + 1)))) (.int .i64 (w64 (width_5 + 1))) rfl rfl rfl ?_
      refine g_end ?_
      refine e_end ?_
      refine renew [(2, (.sl .nl (Enc.shp Int) 0 [])), (3, (.int .i64 0)), (4, (.bool false)), (5, (.ref (.bx 5) 0 [] (.agg [(Enc.enc (r_3.a : List Int))]))), (6, (.int .i64 (w64 (width_5 + 1))))] ⟨h2, h3, h4, h5, rfl⟩ ?_
      rintro s ⟨h2, h3, h4, h5, h6⟩
      refine .nlp ?_
      exact ih (w64 (width_5 + 1)) _ ⟨h2, h3, h4, h5, h6⟩ h
def i_LeastBandwidth_o (F : Nat) (g_1 : (Int × (List (Int × Int)))) : Option (S3 (NL Int) Int Bool) :=
  (i_IsGraph F g_1).bind fun r_2 =>
  bif (!r_2) then
    some (S3.mk .nil 0 false)
  else
    (i_netOf F g_1).bind fun r_3 =>
    i_LeastBandwidth_o_l1 F r_3 F 0
theorem t36o (H : H36o D σ F) (g_1 : (Int × (List (Int × Int)))) (s : Nat → V) (hs : Facts [(0, (.agg [(.int .i64 g_1.1), (Enc.enc (g_1.2 : List (Int × Int)))]))] s) (h : i_LeastBandwidth_o F g_1 = some r) : Run D σ (R36o r) (.run A36o []) s := by
  unfold i_LeastBandwidth_o at h
  have h0 := hs
  refine .seq ?_
  refine run_reg ?_
  refine e_clr ?_
  refine e_end ?_
  refine g_box (.agg [(.int .i64 g_1.1), (Enc.enc (g_1.2 : List (Int × Int)))]) (rd_of (keep_clear (s := s) (pk := [1]) h0 rfl (map_agg (maps_cons rfl (maps_cons (Enc.map_enc _ (g_1.2 : List (Int × Int))) maps_nil)))) rfl) (gone_clear (s := s) (pk := [1]) (t := 1) rfl) rfl ?_
  refine g_v0 (.sl .nl (Enc.shp Int) 0 []) rfl rfl ?_
  refine g_v0 (.int .i64 0) rfl rfl ?_
  refine g_v0 (.bool false) rfl rfl ?_
  refine g_end ?_
  refine e_end ?_
  refine renew [(1, (.ref (.bx 1) 0 [] (.agg [(.int .i64 g_1.1), (Enc.enc (g_1.2 : List (Int × Int)))]))), (2, (.sl .nl (Enc.shp Int) 0 [])), (3, (.int .i64 0)), (4, (.bool false))] ⟨rfl, rfl, rfl, rfl⟩ ?_
  rintro s ⟨h1, h2, h3, h4⟩
  refine .nsq ?_
  refine .seq ?_
  refine .seq ?_
  refine run_reg ?_
  refine e_end ?_
  refine g_v1 (t := 1) (u := (.ref (.bx 1) 0 [] (.agg [(.int .i64 g_1.1), (Enc.enc (g_1.2 : List (Int × Int)))]))) (.agg [(.int .i64 g_1.1), (Enc.enc (g_1.2 : List (Int × Int)))]) h1 rfl rfl ?_
  obtain ⟨r_2, E_r_2, h⟩ := bind_some h
  refine g_call (m := 0) (al := false) (r := (Enc.enc (r_2 : Bool))) [Enc.enc (g_1 : (Int × (List (Int × Int))))] (ta_cons (v := (.agg [(.int .i64 g_1.1), (Enc.enc (g_1.2 : List (Int × Int)))])) rfl rfl (Enc.erase_enc (g_1 : (Int × (List (Int × Int))))) ta_nil) (H.c51 _ _ E_r_2) H.g51 rfl rfl rfl rfl ?_
  refine g_v1 (t := 10) (u := (.bool r_2)) (.bool (!r_2)) rfl rfl rfl ?_
  refine g_end ?_
  refine e_end ?_
  refine renew [(1, (.ref (.bx 1) 0 [] (.agg [(.int .i64 g_1.1), (Enc.enc (g_1.2 : List (Int × Int)))]))), (2, (.sl .nl (Enc.shp Int) 0 [])), (3, (.int .i64 0)), (4, (.bool false)), (11, (.bool (!r_2)))] ⟨h1, h2, h3, h4, rfl⟩ ?_
  rintro s ⟨h1, h2, h3, h4, h11⟩
  refine .nsq ?_
  refine run_cond (t := (!r_2)) h11 h (fun h => ?_) (fun h => ?_)
  · refine .seq ?_
    refine run_reg ?_
    refine e_end ?_
    refine g_v0 (.sl .nl (Enc.shp Int) 0 []) rfl rfl ?_
    refine g_v0 (.int .i64 0) rfl rfl ?_
    refine g_v0 (.bool false) rfl rfl ?_
    refine g_end ?_
    refine e_end ?_
    refine renew [(1, (.ref (.bx 1) 0 [] (.agg [(.int .i64 g_1.1), (Enc.enc (g_1.2 : List (Int × Int)))]))), (2, (.sl .nl (Enc.shp Int) 0 [])), (3, (.int .i64 0)), (4, (.bool false))] ⟨h1, rfl, rfl, rfl⟩ ?_
    rintro s ⟨h1, h2, h3, h4⟩
    refine .nsq ?_
    refine .ret ?_
    have hr := Option.some.inj h
    subst hr
    exact rrC (res_tmp h2) (res_tmp h3) (res_tmp h4) (fin_retO (finO_tup (finOs_cons (finO_nil (α := Int)) (finOs_cons finO_int (finOs_cons finO_bool finOs_nil)))) rfl (mine_tup (mines_cons mine_nil (mines_cons rfl (mines_cons rfl mines_nil)))))
  · refine .skip ?_
    refine .nsq ?_
    refine .seq ?_
    refine run_reg ?_
    refine e_clr ?_
    refine e_end ?_
    refine g_v1 (t := 1) (u := (.ref (.bx 1) 0 [] (.agg [(.int .i64 g_1.1), (Enc.enc (g_1.2 : List (Int × Int)))]))) (.agg [(.int .i64 g_1.1), (Enc.enc (g_1.2 : List (Int × Int)))]) (keep_clear (s := s) (pk := [5]) h1 rfl (map_bx rfl (map_agg (maps_cons rfl (maps_cons (Enc.map_enc _ (g_1.2 : List (Int × Int))) maps_nil))))) rfl rfl ?_
    obtain ⟨r_3, E_r_3, h⟩ := bind_some h
    refine g_call (m := 0) (al := false) (r := (Enc.enc (r_3 : (S1 (List Int))))) [Enc.enc (g_1 : (Int × (List (Int × Int))))] (ta_cons (v := (.agg [(.int .i64 g_1.1), (Enc.enc (g_1.2 : List (Int × Int)))])) rfl rfl (Enc.erase_enc (g_1 : (Int × (List (Int × Int))))) ta_nil) (H.c52 _ _ E_r_3) H.g52 rfl rfl rfl rfl ?_
    refine g_alloc (gone_clear (s := s) (pk := [5]) (t := 5) rfl) ?_
    refine g_store (.agg [(Enc.enc (r_3.a : List Int))]) (rd_of rfl rfl) (rd_of rfl rfl) (by refine ⟨by decide, by decide, rfl, rfl, rfl, ?_⟩; first | rfl | simp [V.toks, V.tokss, Enc.toks_enc]) ?_
    refine g_end ?_
    refine e_end ?_
    refine renew [(2, (.sl .nl (Enc.shp Int) 0 [])), (3, (.int .i64 0)), (4, (.bool false)), (5, (.ref (.bx 5) 0 [] (.agg [(Enc.enc (r_3.a : List Int))])))] ⟨(keep_mut (keep_clear (s := s) (pk := [5]) h2 rfl rfl) rfl), (keep_mut (keep_clear (s := s) (pk := [5]) h3 rfl rfl) rfl), (keep_mut (keep_clear (s := s) (pk := [5]) h4 rfl rfl) rfl), (keep_mut rfl rfl)⟩ ?_
    rintro s ⟨h2, h3, h4, h5⟩
    refine .nsq ?_
    refine .seq ?_
    refine run_reg ?_
    refine e_end ?_
    refine g_v0 (.int .i64 0) rfl rfl ?_
    refine g_end ?_
    refine e_end ?_
    refine renew [(2, (.sl .nl (Enc.shp Int) 0 [])), (3, (.int .i64 0)), (4, (.bool false)), (5, (.ref (.bx 5) 0 [] (.agg [(Enc.enc (r_3.a : List Int))]))), (6, (.int .i64 0))] ⟨h2, h3, h4, h5, rfl⟩ ?_
    rintro s ⟨h2, h3, h4, h5, h6⟩
    refine .nsq ?_
    refine .block ?_
    refine .loop ?_
    exact t_f36o_l1 H r_3 F 0 _ ⟨h2, h3, h4, h5, h6⟩ h
end
def e36o (F : Nat) : Ent := ⟨1000000036, da (fun (x : ((Int × (List (Int × Int))) × Unit)) => i_LeastBandwidth_o F x.1) (fun (r : (S3 (NL Int) Int Bool)) => (.tup [(encO .sh (r.a : NL Int)), (Enc.enc (r.b : Int)), (Enc.enc (r.c : Bool))])), 1, false, selF []⟩
theorem p36o {F : Nat} {x0 : (Int × (List (Int × Int)))} {r : (S3 (NL Int) Int Bool)} (h : i_LeastBandwidth_o F x0 = some r) : (e36o F).den [Enc.enc x0] = some (.tup [(encO .sh (r.a : NL Int)), (Enc.enc (r.b : Int)), (Enc.enc (r.c : Bool))]) := da_put (f := fun (x : ((Int × (List (Int × Int))) × Unit)) => i_LeastBandwidth_o F x.1) (t := fun (r : (S3 (NL Int) Int Bool)) => (.tup [(encO .sh (r.a : NL Int)), (Enc.enc (r.b : Int)), (Enc.enc (r.c : Bool))])) (x0, ()) h
theorem o36o {D : Den} {σ : Sig} {F : Nat} (hF : Fits2 Try.prog D σ) (H : H36o D σ F) : (e36o F).Ok Try.prog := by
  refine ok_of (f := 36) (show unk 1000000036 = 36 from rfl) (fun args r h => ?_) ⟨Try.f36, Try.func36, rfl, rfl⟩
  obtain ⟨⟨x0, _⟩, y, rfl, hy, rfl⟩ := da_open h
  exact contract_run hF (by kernel_rfl) Try.func36 rfl c36o (show 1 ≤ Try.f36.ntmps by decide) (t36o H x0 _ rfl hy)
/- loop.example/g01109/laws.eqIntS -/
def A19_2 : AC := (AC.cond (O.t 14) AC.skip (AC.exit 0))
def A19_4 : AC := (AC.cond (O.t 25) (AC.seq (AC.reg [] [(I.mk (some 4) none false (X.v (A.mov (O.k (V.bool false)))))] []) AC.ret) AC.skip)
def A19_5 : AC := (AC.reg [] [(I.mk (some 15) none false (X.v (A.mov (O.t 5)))), (I.mk (some 16) none false (X.v (A.bin BinOp.add (O.t 15) (O.k (V.int IntKind.i64 (Int.ofNat 1)))))), (I.mk (some 5) none false (X.v (A.mov (O.t 16))))] [])
def A19_3 : AC := (AC.seq (AC.block 1 (AC.seq (AC.reg [] [(I.mk (some 17) none false (X.v (A.mov (O.t 0)))), (I.mk (some 18) none false (X.v (A.mov (O.t 5)))), (I.mk (some 19) none false (X.v (A.idx (O.t 17) (O.t 18) 1))), (I.mk (some 20) none false (X.v (A.load Sh.s (O.t 19)))), (I.mk (some 21) none false (X.v (A.mov (O.t 1)))), (I.mk (some 22) none false (X.v (A.mov (O.t 5)))), (I.mk (some 23) none false (X.v (A.idx (O.t 21) (O.t 22) 1))), (I.mk (some 24) none false (X.v (A.load Sh.s (O.t 23)))), (I.mk (some 25) none false (X.v (A.bin BinOp.neq (O.t 20) (O.t 24))))] []) A19_4)) A19_5)
def A19_1 : AC := (AC.seq (AC.seq (AC.reg [] [(I.mk (some 11) none false (X.v (A.mov (O.t 5)))), (I.mk (some 12) none false (X.v (A.mov (O.t 0)))), (I.mk (some 13) none false (X.v (A.len (O.t 12)))), (I.mk (some 14) none false (X.v (A.bin BinOp.lss (O.t 11) (O.t 13))))] []) A19_2) A19_3)
def A19_6 : AC := (AC.seq (AC.reg [] [(I.mk (some 4) none false (X.v (A.mov (O.k (V.bool true)))))] []) AC.ret)
def A19_8 : AC := (AC.cond (O.t 10) (AC.seq (AC.reg [] [(I.mk (some 4) none false (X.v (A.mov (O.k (V.bool false)))))] []) AC.ret) AC.skip)
def A19_10 : AC := (AC.block 0 (AC.loop A19_1))
def A19_9 : AC := (AC.seq (AC.seq (AC.reg [] [(I.mk (some 5) none false (X.v (A.mov (O.k (V.int IntKind.i64 (Int.ofNat 0))))))] []) A19_10) A19_6)
def A19_7 : AC := (AC.seq (AC.seq (AC.reg [] [(I.mk (some 6) none false (X.v (A.mov (O.t 0)))), (I.mk (some 7) none false (X.v (A.len (O.t 6)))), (I.mk (some 8) none false (X.v (A.mov (O.t 1)))), (I.mk (some 9) none false (X.v (A.len (O.t 8)))), (I.mk (some 10) none false (X.v (A.bin BinOp.neq (O.t 7) (O.t 9))))] []) A19_8) A19_9)
def A19 : AC := (AC.seq (AC.reg [] [(I.mk (some 4) none false (X.v (A.mov (O.k (V.bool false)))))] []) A19_7)
def an19 : List An := []
theorem c19 : cC Try.prog Try.f19.ntmps an19 (Try.f19.body.getD .skip) = some A19 := by kernel_rfl
structure H19 (D : Den) (σ : Sig) (F : Nat) : Prop where
  mk ::
abbrev R19 (r : Bool) : (Nat → V) → Prop := RR Try.prog [.tmp 4] 0 false (Enc.enc (r : Bool))
section
variable {D : Den} {σ : Sig} {F : Nat} {r : Bool}
def w_eqIntS_l1 (F : Nat) (a_1 : (List Int)) (b_2 : (List Int))  : Nat → Int → Option Bool
  | 0, _ => none
  | k + 1, i_5 =>
    bif decide (i_5 < (a_1.length : Int)) then
      (idx a_1 i_5).bind fun e_8 =>
      (idx b_2 i_5).bind fun e_9 =>
      bif (e_8 != e_9) then
        some false
      else
        (w_eqIntS_l1 F a_1 b_2 k) (w64 (i_5 + 1))
    else
      some true
theorem t_f19_l1 (H : H19 D σ F) (a_1 : (List Int)) (b_2 : (List Int))  : ∀ (k : Nat) (i_5 : Int) (s : Nat → V), Facts [(0, (Enc.enc (a_1 : List Int))), (1, (Enc.enc (b_2 : List Int))), (4, (.bool false)), (5, (.int .i64 i_5))] s → w_eqIntS_l1 F a_1 b_2 k i_5 = some r → Run D σ (R19 r) (.run A19_1 [.lp A19_1, .bk 0, .sq A19_6]) s := by
  intro k
  induction k with
  | zero => intro i_5 s _ h; exact nomatch (h : (none : Option _) = some r)
  | succ k ih =>
    intro i_5 s hs h
    rw [w_eqIntS_l1] at h
    obtain ⟨h0, h1, h4, h5⟩ := hs
    refine .seq ?_
    refine .seq ?_
    refine run_reg ?_
    refine e_end ?_
    refine g_v1 (t := 5) (u := (.int .i64 i_5)) (.int .i64 i_5) h5 rfl rfl ?_
    refine g_v1 (t := 0) (u := (Enc.enc (a_1 : List Int))) (Enc.enc (a_1 : List Int)) h0 rfl rfl ?_
    refine g_v (.int .i64 (a_1.length : Int)) (ev_len (xs := a_1) rfl) ?_
    refine g_v2 (t1 := 11) (t2 := 13) (u1 := (.int .i64 i_5)) (u2 := (.int .i64 (a_1.length : Int))) (.bool (decide (i_5 < (a_1.length : Int)))) rfl rfl rfl rfl ?_
    refine g_end ?_
    refine e_end ?_
    refine renew [(0, (Enc.enc (a_1 : List Int))), (1, (Enc.enc (b_2 : List Int))), (4, (.bool false)), (5, (.int .i64 i_5)), (14, (.bool (decide (i_5 < (a_1.length : Int)))))] ⟨h0, h1, h4, h5, rfl⟩ ?_
    rintro s ⟨h0, h1, h4, h5, h14⟩
    refine .nsq ?_
    refine run_cond (t := decide (i_5 < (a_1.length : Int))) h14 h (fun h => ?_) (fun h => ?_)
    · refine .skip ?_
      refine .nsq ?_
      refine .seq ?_
      refine .block ?_
      refine .seq ?_
      refine run_reg ?_
      refine e_end ?_
      refine g_v1 (t := 0) (u := (Enc.enc (a_1 : List Int))) (Enc.enc (a_1 : List Int)) h0 rfl rfl ?_
      refine g_v1 (t := 5) (u := (.int .i64 i_5)) (.int .i64 i_5) h5 rfl rfl ?_
      obtain ⟨e_8, E_e_8, h⟩ := bind_some h
      refine g_v (.ref .sh 0 [] (.int .i64 e_8)) (ev_idx (t := .sh) (lo := 0) (xs := a_1) rfl rfl E_e_8 rfl rfl) ?_
      refine g_v1 (t := 19) (u := (.ref .sh 0 [] (.int .i64 e_8))) (.int .i64 e_8) rfl rfl rfl ?_
      refine g_v1 (t := 1) (u := (Enc.enc (b_2 : List Int))) (Enc.enc (b_2 : List Int)) h1 rfl rfl ?_
      refine g_v1 (t := 5) (u := (.int .i64 i_5)) (.int .i64 i_5) h5 rfl rfl ?_
      obtain ⟨e_9, E_e_9, h⟩ := bind_some h
      refine g_v (.ref .sh 0 [] (.int .i64 e_9)) (ev_idx (t := .sh) (lo := 0) (xs := b_2) rfl rfl E_e_9 rfl rfl) ?_
      refine g_v1 (t := 23) (u := (.ref .sh 0 [] (.int .i64 e_9))) (.int .i64 e_9) rfl rfl rfl ?_
      refine g_v2 (t1 := 20) (t2 := 24) (u1 := (.int .i64 e_8)) (u2 := (.int .i64 e_9)) (.bool (e_8 != e_9)) rfl rfl rfl rfl ?_
      refine g_end ?_
      refine e_end ?_
      refine renew [(0, (Enc.enc (a_1 : List Int))), (1, (Enc.enc (b_2 : List Int))), (4, (.bool false)), (5, (.int .i64 i_5)), (25, (.bool (e_8 != e_9)))] ⟨h0, h1, h4, h5, rfl⟩ ?_
      rintro s ⟨h0, h1, h4, h5, h25⟩
      refine .nsq ?_
      refine run_cond (t := (e_8 != e_9)) h25 h (fun h => ?_) (fun h => ?_)
      · refine .seq ?_
        refine run_reg ?_
        refine e_end ?_
        refine g_v0 (.bool false) rfl rfl ?_
        refine g_end ?_
        refine e_end ?_
        refine renew [(0, (Enc.enc (a_1 : List Int))), (1, (Enc.enc (b_2 : List Int))), (4, (.bool false)), (5, (.int .i64 i_5))] ⟨h0, h1, rfl, h5⟩ ?_
        rintro s ⟨h0, h1, h4, h5⟩
        refine .nsq ?_
        refine .ret ?_
        have hr := Option.some.inj h
        subst hr
        exact rrA (res_tmp h4) rfl
      · refine .skip ?_
        refine .nbk ?_
        refine .nsq ?_
        refine run_reg ?_
        refine e_end ?_
        refine g_v1 (t := 5) (u := (.int .i64 i_5)) (.int .i64 i_5) h5 rfl rfl ?_
        refine g_v1 (t := 15) (u := (.int .i64 i_5)) (.int .i64 (w64 (i_5 + 1))) rfl rfl rfl ?_
        refine g_v1 (t := 16) (u := (.int .i64 (w64 (i_5 + 1)))) (.int .i64 (w64 (i_5 + 1))) rfl rfl rfl ?_
        refine g_end ?_
        refine e_end ?_
        refine renew [(0, (Enc.enc (a_1 : List Int))), (1, (Enc.enc (b_2 : List Int))), (4, (.bool false)), (5, (.int .i64 (w64 (i_5 + 1))))] ⟨h0, h1, h4, rfl⟩ ?_
        rintro s ⟨h0, h1, h4, h5⟩
        refine .nlp ?_
        exact ih (w64 (i_5 + 1)) _ ⟨h0, h1, h4, h5⟩ h
    · refine .exit ?_
      refine .esq ?_
      refine .elp ?_
      refine .ebk ?_
      refine .nsq ?_
      refine .seq ?_
      refine run_reg ?_
      refine e_end ?_
      refine g_v0 (.bool true) rfl rfl ?_
      refine g_end ?_
      refine e_end ?_
      refine renew [(4, (.bool true))] rfl ?_
      rintro s h4
      refine .nsq ?_
      refine .ret ?_
      have hr := Option.some.inj h
      subst hr
      exact rrA (res_tmp h4) rfl
def w_eqIntS (F : Nat) (a_1 : (List Int)) (b_2 : (List Int)) : Option Bool :=
  bif ((a_1.length : Int) != (b_2.length : Int)) then
    some false
  else
    w_eqIntS_l1 F a_1 b_2 F 0
theorem t19 (H : H19 D σ F) (a_1 : (List Int)) (b_2 : (List Int)) (s : Nat → V) (hs : Facts [(0, (Enc.enc (a_1 : List Int))), (1, (Enc.enc (b_2 : List Int)))] s) (h : w_eqIntS F a_1 b_2 = some r) : Run D σ (R19 r) (.run A19 []) s := by
  unfold w_eqIntS at h
  obtain ⟨h0, h1⟩ := hs
  refine .seq ?_
  refine run_reg ?_
  refine e_end ?_
  refine g_v0 (.bool false) rfl rfl ?_
  refine g_end ?_
  refine e_end ?_
  refine renew [(0, (Enc.enc (a_1 : List Int))), (1, (Enc.enc (b_2 : List Int))), (4, (.bool false))] ⟨h0, h1, rfl⟩ ?_
  rintro s ⟨h0, h1, h4⟩
  refine .nsq ?_
  refine .seq ?_
  refine .seq ?_
  refine run_reg ?_
  refine e_end ?_
  refine g_v1 (t := 0) (u := (Enc.enc (a_1 : List Int))) (Enc.enc (a_1 : List Int)) h0 rfl rfl ?_
  refine g_v (.int .i64 (a_1.length : Int)) (ev_len (xs := a_1) rfl) ?_
  refine g_v1 (t := 1) (u := (Enc.enc (b_2 : List Int))) (Enc.enc (b_2 : List Int)) h1 rfl rfl ?_
  refine g_v (.int .i64 (b_2.length : Int)) (ev_len (xs := b_2) rfl) ?_
  refine g_v2 (t1 := 7) (t2 := 9) (u1 := (.int .i64 (a_1.length : Int))) (u2 := (.int .i64 (b_2.length : Int))) (.bool ((a_1.length : Int) != (b_2.length : Int))) rfl rfl rfl rfl ?_
  refine g_end ?_
  refine e_end ?_
  refine renew [(0, (Enc.enc (a_1 : List Int))), (1, (Enc.enc (b_2 : List Int))), (4, (.bool false)), (10, (.bool ((a_1.length : Int) != (b_2.length : Int))))] ⟨h0, h1, h4, rfl⟩ ?_
  rintro s ⟨h0, h1, h4, h10⟩
  refine .nsq ?_
  refine run_cond (t := ((a_1.length : Int) != (b_2.length : Int))) h10 h (fun h => ?_) (fun h => ?_)
  · refine .seq ?_
    refine run_reg ?_
    refine e_end ?_
    refine g_v0 (.bool false) rfl rfl ?_
    refine g_end ?_
    refine e_end ?_
    refine renew [(0, (Enc.enc (a_1 : List Int))), (1, (Enc.enc (b_2 : List Int))), (4, (.bool false))] ⟨h0, h1, rfl⟩ ?_
    rintro s ⟨h0, h1, h4⟩
    refine .nsq ?_
    refine .ret ?_
    have hr := Option.some.inj h
    subst hr
    exact rrA (res_tmp h4) rfl
  · refine .skip ?_
    refine .nsq ?_
    refine .seq ?_
    refine .seq ?_
    refine run_reg ?_
    refine e_end ?_
    refine g_v0 (.int .i64 0) rfl rfl ?_
    refine g_end ?_
    refine e_end ?_
    refine renew [(0, (Enc.enc (a_1 : List Int))), (1, (Enc.enc (b_2 : List Int))), (4, (.bool false)), (5, (.int .i64 0))] ⟨h0, h1, h4, rfl⟩ ?_
    rintro s ⟨h0, h1, h4, h5⟩
    refine .nsq ?_
    refine .block ?_
    refine .loop ?_
    exact t_f19_l1 H a_1 b_2 F 0 _ ⟨h0, h1, h4, h5⟩ h
end
def e19 (F : Nat) : Ent := ⟨19, da (fun (x : ((List Int) × (List Int) × Unit)) => w_eqIntS F x.1 x.2.1) (fun (r : Bool) => (Enc.enc (r : Bool))), 0, false, selF []⟩
theorem p19 {F : Nat} {x0 : (List Int)} {x1 : (List Int)} {r : Bool} (h : w_eqIntS F x0 x1 = some r) : (e19 F).den [Enc.enc x0, Enc.enc x1] = some (Enc.enc (r : Bool)) := da_put (f := fun (x : ((List Int) × (List Int) × Unit)) => w_eqIntS F x.1 x.2.1) (t := fun (r : Bool) => (Enc.enc (r : Bool))) (x0, x1, ()) h
theorem o19 {D : Den} {σ : Sig} {F : Nat} (hF : Fits2 Try.prog D σ) (H : H19 D σ F) : (e19 F).Ok Try.prog := by
  refine ok_of (f := 19) (show unk 19 = 19 from rfl) (fun args r h => ?_) ⟨Try.f19, Try.func19, rfl, rfl⟩
  obtain ⟨⟨x0, x1, _⟩, y, rfl, hy, rfl⟩ := da_open h
  exact contract_run hF (by kernel_rfl) Try.func19 rfl c19 (show 2 ≤ Try.f19.ntmps by decide) (t19 H x0 x1 _ ⟨rfl, rfl⟩ hy)
/- loop.example/g01109/laws.eqIntA2 -/
def A103_2 : AC := (AC.cond (O.t 7) AC.skip (AC.exit 0))
def A103_4 : AC := (AC.cond (O.t 16) (AC.seq (AC.reg [] [(I.mk (some 4) none false (X.v (A.mov (O.k (V.bool false)))))] []) AC.ret) AC.skip)
def A103_5 : AC := (AC.reg [] [(I.mk (some 8) none false (X.v (A.mov (O.t 5)))), (I.mk (some 9) none false (X.v (A.bin BinOp.add (O.t 8) (O.k (V.int IntKind.i64 (Int.ofNat 1)))))), (I.mk (some 5) none false (X.v (A.mov (O.t 9))))] [])
def A103_3 : AC := (AC.seq (AC.block 1 (AC.seq (AC.reg [] [(I.mk (some 10) none false (X.v (A.mov (O.t 5)))), (I.mk (some 11) none false (X.v (A.idxA (O.t 2) (O.t 10) 2 1))), (I.mk (some 12) none false (X.v (A.load Sh.s (O.t 11)))), (I.mk (some 13) none false (X.v (A.mov (O.t 5)))), (I.mk (some 14) none false (X.v (A.idxA (O.t 3) (O.t 13) 2 1))), (I.mk (some 15) none false (X.v (A.load Sh.s (O.t 14)))), (I.mk (some 16) none false (X.v (A.bin BinOp.neq (O.t 12) (O.t 15))))] []) A103_4)) A103_5)
def A103_1 : AC := (AC.seq (AC.seq (AC.reg [] [(I.mk (some 6) none false (X.v (A.mov (O.t 5)))), (I.mk (some 7) none false (X.v (A.bin BinOp.lss (O.t 6) (O.k (V.int IntKind.i64 (Int.ofNat 2))))))] []) A103_2) A103_3)
def A103_6 : AC := (AC.seq (AC.reg [] [(I.mk (some 4) none false (X.v (A.mov (O.k (V.bool true)))))] []) AC.ret)
def A103_8 : AC := (AC.block 0 (AC.loop A103_1))
def A103_7 : AC := (AC.seq (AC.seq (AC.reg [] [(I.mk (some 5) none false (X.v (A.mov (O.k (V.int IntKind.i64 (Int.ofNat 0))))))] []) A103_8) A103_6)
def A103 : AC := (AC.seq (AC.reg [.clr [2, 3]] [(I.mk (some 2) none false (X.box (O.t 0))), (I.mk (some 3) none false (X.box (O.t 1))), (I.mk (some 4) none false (X.v (A.mov (O.k (V.bool false)))))] []) A103_7)
def an103 : List An := [{ id := 0, pre := [.clr [2, 3]], ep := [], lin := [], sp := [] }]
theorem c103 : cC Try.prog Try.f103.ntmps an103 (Try.f103.body.getD .skip) = some A103 := by kernel_rfl
structure H103 (D : Den) (σ : Sig) (F : Nat) : Prop where
  mk ::
abbrev R103 (r : Bool) : (Nat → V) → Prop := RR Try.prog [.tmp 4] 0 false (Enc.enc (r : Bool))
section
variable {D : Den} {σ : Sig} {F : Nat} {r : Bool}
def w_eqIntA2_l1 (F : Nat) (a_1 : (Int × Int)) (b_2 : (Int × Int))  : Nat → Int → Option Bool
  | 0, _ => none
  | k + 1, i_3 =>
    bif decide (i_3 < 2) then
      (idx [a_1.1, a_1.2] i_3).bind fun e_6 =>
      (idx [b_2.1, b_2.2] i_3).bind fun e_7 =>
      bif (e_6 != e_7) then
        some false
      else
        (w_eqIntA2_l1 F a_1 b_2 k) (w64 (i_3 + 1))
    else
      some true
theorem t_f103_l1 (H : H103 D σ F) (a_1 : (Int × Int)) (b_2 : (Int × Int))  : ∀ (k : Nat) (i_3 : Int) (s : Nat → V), Facts [(2, (.ref (.bx 2) 0 [] (.agg [(.int .i64 a_1.1), (.int .i64 a_1.2)]))), (3, (.ref (.bx 3) 0 [] (.agg [(.int .i64 b_2.1), (.int .i64 b_2.2)]))), (4, (.bool false)), (5, (.int .i64 i_3))] s → w_eqIntA2_l1 F a_1 b_2 k i_3 = some r → Run D σ (R103 r) (.run A103_1 [.lp A103_1, .bk 0, .sq A103_6]) s := by
  intro k
  induction k with
  | zero => intro i_3 s _ h; exact nomatch (h : (none : Option _) = some r)
  | succ k ih =>
    intro i_3 s hs h
    rw [w_eqIntA2_l1] at h
    obtain ⟨h2, h3, h4, h5⟩ := hs
    refine .seq ?_
    refine .seq ?_
    refine run_reg ?_
    refine e_end ?_
    refine g_v1 (t := 5) (u := (.int .i64 i_3)) (.int .i64 i_3) h5 rfl rfl ?_
    refine g_v1 (t := 6) (u := (.int .i64 i_3)) (.bool (decide (i_3 < 2))) rfl rfl rfl ?_
    refine g_end ?_
    refine e_end ?_
    refine renew [(2, (.ref (.bx 2) 0 [] (.agg [(.int .i64 a_1.1), (.int .i64 a_1.2)]))), (3, (.ref (.bx 3) 0 [] (.agg [(.int .i64 b_2.1), (.int .i64 b_2.2)]))), (4, (.bool false)), (5, (.int .i64 i_3)), (7, (.bool (decide (i_3 < 2))))] ⟨h2, h3, h4, h5, rfl⟩ ?_
    rintro s ⟨h2, h3, h4, h5, h7⟩
    refine .nsq ?_
    refine run_cond (t := decide (i_3 < 2)) h7 h (fun h => ?_) (fun h => ?_)
    · refine .skip ?_
      refine .nsq ?_
      refine .seq ?_
      refine .block ?_
      refine .seq ?_
      refine run_reg ?_
      refine e_end ?_
      refine g_v1 (t := 5) (u := (.int .i64 i_3)) (.int .i64 i_3) h5 rfl rfl ?_
      obtain ⟨e_6, E_e_6, h⟩ := bind_some h
      refine g_v (.ref (.bx 2) 0 [i_3.toNat] (.int .i64 e_6)) (ev_idxA (xs := [a_1.1, a_1.2]) (a := e_6) (n := i_3) (q := []) h2 rfl E_e_6 rfl rfl rfl) ?_
      refine g_v1 (t := 11) (u := (.ref (.bx 2) 0 [i_3.toNat] (.int .i64 e_6))) (.int .i64 e_6) rfl rfl rfl ?_
      refine g_v1 (t := 5) (u := (.int .i64 i_3)) (.int .i64 i_3) h5 rfl rfl ?_
      obtain ⟨e_7, E_e_7, h⟩ := bind_some h
      refine g_v (.ref (.bx 3) 0 [i_3.toNat] (.int .i64 e_7)) (ev_idxA (xs := [b_2.1, b_2.2]) (a := e_7) (n := i_3) (q := []) h3 rfl E_e_7 rfl rfl rfl) ?_
      refine g_v1 (t := 14) (u := (.ref (.bx 3) 0 [i_3.toNat] (.int .i64 e_7))) (.int .i64 e_7) rfl rfl rfl ?_
      refine g_v2 (t1 := 12) (t2 := 15) (u1 := (.int .i64 e_6)) (u2 := (.int .i64 e_7)) (.bool (e_6 != e_7)) rfl rfl rfl rfl ?_
      refine g_end ?_
      refine e_end ?_
      refine renew [(2, (.ref (.bx 2) 0 [] (.agg [(.int .i64 a_1.1), (.int .i64 a_1.2)]))), (3, (.ref (.bx 3) 0 [] (.agg [(.int .i64 b_2.1), (.int .i64 b_2.2)]))), (4, (.bool false)), (5, (.int .i64 i_3)), (16, (.bool (e_6 != e_7)))] ⟨h2, h3, h4, h5, rfl⟩ ?_
      rintro s ⟨h2, h3, h4, h5, h16⟩
      refine .nsq ?_
      refine run_cond (t := (e_6 != e_7)) h16 h (fun h => ?_) (fun h => ?_)
      · refine .seq ?_
        refine run_reg ?_
        refine e_end ?_
        refine g_v0 (.bool false) rfl rfl ?_
        refine g_end ?_
        refine e_end ?_
        refine renew [(2, (.ref (.bx 2) 0 [] (.agg [(.int .i64 a_1.1), (.int .i64 a_1.2)]))), (3, (.ref (.bx 3) 0 [] (.agg [(.int .i64 b_2.1), (.int .i64 b_2.2)]))), (4, (.bool false)), (5, (.int .i64 i_3))] ⟨h2, h3, rfl, h5⟩ ?_
        rintro s ⟨h2, h3, h4, h5⟩
        refine .nsq ?_
        refine .ret ?_
        have hr := Option.some.inj h
        subst hr
        exact rrA (res_tmp h4) rfl
      · refine .skip ?_
        refine .nbk ?_
        refine .nsq ?_
        refine run_reg ?_
        refine e_end ?_
        refine g_v1 (t := 5) (u := (.int .i64 i_3)) (.int .i64 i_3) h5 rfl rfl ?_
        refine g_v1 (t := 8) (u := (.int .i64 i_3)) (.int .i64 (w64 (i_3 + 1))) rfl rfl rfl ?_
        refine g_v1 (t := 9) (u := (.int .i64 (w64 (i_3 + 1)))) (.int .i64 (w64 (i_3 + 1))) rfl rfl rfl ?_
        refine g_end ?_
        refine e_end ?_
        refine renew [(2, (.ref (.bx 2) 0 [] (.agg [(.int .i64 a_1.1), (.int .i64 a_1.2)]))), (3, (.ref (.bx 3) 0 [] (.agg [(.int .i64 b_2.1), (.int .i64 b_2.2)]))), (4, (.bool false)), (5, (.int .i64 (w64 (i_3 + 1))))] ⟨h2, h3, h4, rfl⟩ ?_
        rintro s ⟨h2, h3, h4, h5⟩
        refine .nlp ?_
        exact ih (w64 (i_3 + 1)) _ ⟨h2, h3, h4, h5⟩ h
    · refine .exit ?_
      refine .esq ?_
      refine .elp ?_
      refine .ebk ?_
      refine .nsq ?_
      refine .seq ?_
      refine run_reg ?_
      refine e_end ?_
      refine g_v0 (.bool true) rfl rfl ?_
      refine g_end ?_
      refine e_end ?_
      refine renew [(4, (.bool true))] rfl ?_
      rintro s h4
      refine .nsq ?_
      refine .ret ?_
      have hr := Option.some.inj h
      subst hr
      exact rrA (res_tmp h4) rfl
def w_eqIntA2 (F : Nat) (a_1 : (Int × Int)) (b_2 : (Int × Int)) : Option Bool :=
  w_eqIntA2_l1 F a_1 b_2 F 0
theorem t103 (H : H103 D σ F) (a_1 : (Int × Int)) (b_2 : (Int × Int)) (s : Nat → V) (hs : Facts [(0, (.agg [(.int .i64 a_1.1), (.int .i64 a_1.2)])), (1, (.agg [(.int .i64 b_2.1), (.int .i64 b_2.2)]))] s) (h : w_eqIntA2 F a_1 b_2 = some r) : Run D σ (R103 r) (.run A103 []) s := by
  unfold w_eqIntA2 at h
  obtain ⟨h0, h1⟩ := hs
  refine .seq ?_
  refine run_reg ?_
  refine e_clr ?_
  refine e_end ?_
  refine g_box (.agg [(.int .i64 a_1.1), (.int .i64 a_1.2)]) (rd_of (keep_clear (s := s) (pk := [2, 3]) h0 rfl (map_agg (maps_cons rfl (maps_cons rfl maps_nil)))) rfl) (gone_clear (s := s) (pk := [2, 3]) (t := 2) rfl) rfl ?_
  refine g_box (.agg [(.int .i64 b_2.1), (.int .i64 b_2.2)]) (rd_of (keep_clear (s := s) (pk := [2, 3]) h1 rfl (map_agg (maps_cons rfl (maps_cons rfl maps_nil)))) rfl) (gone_clear (s := s) (pk := [2, 3]) (t := 3) rfl) rfl ?_
  refine g_v0 (.bool false) rfl rfl ?_
  refine g_end ?_
  refine e_end ?_
  refine renew [(2, (.ref (.bx 2) 0 [] (.agg [(.int .i64 a_1.1), (.int .i64 a_1.2)]))), (3, (.ref (.bx 3) 0 [] (.agg [(.int .i64 b_2.1), (.int .i64 b_2.2)]))), (4, (.bool false))] ⟨rfl, rfl, rfl⟩ ?_
  rintro s ⟨h2, h3, h4⟩
  refine .nsq ?_
  refine .seq ?_
  refine .seq ?_
  refine run_reg ?_
  refine e_end ?_
  refine g_v0 (.int .i64 0) rfl rfl ?_
  refine g_end ?_
  refine e_end ?_
  refine renew [(2, (.ref (.bx 2) 0 [] (.agg [(.int .i64 a_1.1), (.int .i64 a_1.2)]))), (3, (.ref (.bx 3) 0 [] (.agg [(.int .i64 b_2.1), (.int .i64 b_2.2)]))), (4, (.bool false)), (5, (.int .i64 0))] ⟨h2, h3, h4, rfl⟩ ?_
  rintro s ⟨h2, h3, h4, h5⟩
  refine .nsq ?_
  refine .block ?_
  refine .loop ?_
  exact t_f103_l1 H a_1 b_2 F 0 _ ⟨h2, h3, h4, h5⟩ h
end
def e103 (F : Nat) : Ent := ⟨103, da (fun (x : ((Int × Int) × (Int × Int) × Unit)) => w_eqIntA2 F x.1 x.2.1) (fun (r : Bool) => (Enc.enc (r : Bool))), 0, false, selF []⟩
theorem p103 {F : Nat} {x0 : (Int × Int)} {x1 : (Int × Int)} {r : Bool} (h : w_eqIntA2 F x0 x1 = some r) : (e103 F).den [Enc.enc x0, Enc.enc x1] = some (Enc.enc (r : Bool)) := da_put (f := fun (x : ((Int × Int) × (Int × Int) × Unit)) => w_eqIntA2 F x.1 x.2.1) (t := fun (r : Bool) => (Enc.enc (r : Bool))) (x0, x1, ()) h
theorem o103 {D : Den} {σ : Sig} {F : Nat} (hF : Fits2 Try.prog D σ) (H : H103 D σ F) : (e103 F).Ok Try.prog := by
  refine ok_of (f := 103) (show unk 103 = 103 from rfl) (fun args r h => ?_) ⟨Try.f103, Try.func103, rfl, rfl⟩
  obtain ⟨⟨x0, x1, _⟩, y, rfl, hy, rfl⟩ := da_open h
  exact contract_run hF (by kernel_rfl) Try.func103 rfl c103 (show 2 ≤ Try.f103.ntmps by decide) (t103 H x0 x1 _ ⟨rfl, rfl⟩ hy)
/- loop.example/g01109/laws.eqIntA2S -/
def A54_2 : AC := (AC.cond (O.t 14) AC.skip (AC.exit 0))
def A54_4 : AC := (AC.cond (O.t 26) (AC.seq (AC.reg [] [(I.mk (some 4) none false (X.v (A.mov (O.k (V.bool false)))))] []) AC.ret) AC.skip)
def A54_5 : AC := (AC.reg [] [(I.mk (some 15) none false (X.v (A.mov (O.t 5)))), (I.mk (some 16) none false (X.v (A.bin BinOp.add (O.t 15) (O.k (V.int IntKind.i64 (Int.ofNat 1)))))), (I.mk (some 5) none false (X.v (A.mov (O.t 16))))] [])
def A54_3 : AC := (AC.seq (AC.block 1 (AC.seq (AC.reg [] [(I.mk (some 17) none false (X.v (A.mov (O.t 0)))), (I.mk (some 18) none false (X.v (A.mov (O.t 5)))), (I.mk (some 19) none false (X.v (A.idx (O.t 17) (O.t 18) 2))), (I.mk (some 20) none false (X.v (A.load (Sh.ag [Sh.s, Sh.s]) (O.t 19)))), (I.mk (some 21) none false (X.v (A.mov (O.t 1)))), (I.mk (some 22) none false (X.v (A.mov (O.t 5)))), (I.mk (some 23) none false (X.v (A.idx (O.t 21) (O.t 22) 2))), (I.mk (some 24) none false (X.v (A.load (Sh.ag [Sh.s, Sh.s]) (O.t 23)))), (I.mk (some 25) none false (X.call (O.k (V.fn 103 [] [])) [(O.t 20), (O.t 24)])), (I.mk (some 26) none false (X.v (A.un UnOp.not (O.t 25))))] []) A54_4)) A54_5)
def A54_1 : AC := (AC.seq (AC.seq (AC.reg [] [(I.mk (some 11) none false (X.v (A.mov (O.t 5)))), (I.mk (some 12) none false (X.v (A.mov (O.t 0)))), (I.mk (some 13) none false (X.v (A.len (O.t 12)))), (I.mk (some 14) none false (X.v (A.bin BinOp.lss (O.t 11) (O.t 13))))] []) A54_2) A54_3)
def A54_6 : AC := (AC.seq (AC.reg [] [(I.mk (some 4) none false (X.v (A.mov (O.k (V.bool true)))))] []) AC.ret)
def A54_8 : AC := (AC.cond (O.t 10) (AC.seq (AC.reg [] [(I.mk (some 4) none false (X.v (A.mov (O.k (V.bool false)))))] []) AC.ret) AC.skip)
def A54_10 : AC := (AC.block 0 (AC.loop A54_1))
def A54_9 : AC := (AC.seq (AC.seq (AC.reg [] [(I.mk (some 5) none false (X.v (A.mov (O.k (V.int IntKind.i64 (Int.ofNat 0))))))] []) A54_10) A54_6)
def A54_7 : AC := (AC.seq (AC.seq (AC.reg [] [(I.mk (some 6) none false (X.v (A.mov (O.t 0)))), (I.mk (some 7) none false (X.v (A.len (O.t 6)))), (I.mk (some 8) none false (X.v (A.mov (O.t 1)))), (I.mk (some 9) none false (X.v (A.len (O.t 8)))), (I.mk (some 10) none false (X.v (A.bin BinOp.neq (O.t 7) (O.t 9))))] []) A54_8) A54_9)
def A54 : AC := (AC.seq (AC.reg [] [(I.mk (some 4) none false (X.v (A.mov (O.k (V.bool false)))))] []) A54_7)
def an54 : List An := []
theorem c54 : cC Try.prog Try.f54.ntmps an54 (Try.f54.body.getD .skip) = some A54 := by kernel_rfl
structure H54 (D : Den) (σ : Sig) (F : Nat) : Prop where
  c103 : ∀ (x0 : (Int × Int)) (x1 : (Int × Int)) r, w_eqIntA2 F x0 x1 = some r → D 103 [Enc.enc x0, Enc.enc x1] = some (Enc.enc (r : Bool))
  g103 : σ 103 = some (0, false)
abbrev R54 (r : Bool) : (Nat → V) → Prop := RR Try.prog [.tmp 4] 0 false (Enc.enc (r : Bool))
section
variable {D : Den} {σ : Sig} {F : Nat} {r : Bool}
def w_eqIntA2S_l1 (F : Nat) (a_1 : (List (Int × Int))) (b_2 : (List (Int × Int)))  : Nat → Int → Option Bool
  | 0, _ => none
  | k + 1, i_6 =>
    bif decide (i_6 < (a_1.length : Int)) then
      (idx a_1 i_6).bind fun e_10 =>
      (idx b_2 i_6).bind fun e_11 =>
      (w_eqIntA2 F e_10 e_11).bind fun r_12 =>
      bif (!r_12) then
        some false
      else
        (w_eqIntA2S_l1 F a_1 b_2 k) (w64 (i_6 + 1))
    else
      some true
theorem t_f54_l1 (H : H54 D σ F) (a_1 : (List (Int × Int))) (b_2 : (List (Int × Int)))  : ∀ (k : Nat) (i_6 : Int) (s : Nat → V), Facts [(0, (Enc.enc (a_1 : List (Int × Int)))), (1, (Enc.enc (b_2 : List (Int × Int)))), (4, (.bool false)), (5, (.int .i64 i_6))] s → w_eqIntA2S_l1 F a_1 b_2 k i_6 = some r → Run D σ (R54 r) (.run A54_1 [.lp A54_1, .bk 0, .sq A54_6]) s := by
  intro k
  induction k with
  | zero => intro i_6 s _ h; exact nomatch (h : (none : Option _) = some r)
  | succ k ih =>
    intro i_6 s hs h
    rw [w_eqIntA2S_l1] at h
    obtain ⟨h0, h1, h4, h5⟩ := hs
    refine .seq ?_
    refine .seq ?_
    refine run_reg ?_
    refine e_end ?_
    refine g_v1 (t := 5) (u := (.int .i64 i_6)) (.int .i64 i_6) h5 rfl rfl ?_
    refine g_v1 (t := 0) (u := (Enc.enc (a_1 : List (Int × Int)))) (Enc.enc (a_1 : List (Int × Int))) h0 rfl rfl ?_
    refine g_v (.int .i64 (a_1.length : Int)) (ev_len (xs := a_1) rfl) ?_
    refine g_v2 (t1 := 11) (t2 := 13) (u1 := (.int .i64 i_6)) (u2 := (.int .i64 (a_1.length : Int))) (.bool (decide (i_6 < (a_1.length : Int)))) rfl rfl rfl rfl ?_
    refine g_end ?_
    refine e_end ?_
    refine renew [(0, (Enc.enc (a_1 : List (Int × Int)))), (1, (Enc.enc (b_2 : List (Int × Int)))), (4, (.bool false)), (5, (.int .i64 i_6)), (14, (.bool (decide (i_6 < (a_1.length : Int)))))] ⟨h0, h1, h4, h5, rfl⟩ ?_
    rintro s ⟨h0, h1, h4, h5, h14⟩
    refine .nsq ?_
    refine run_cond (t := decide (i_6 < (a_1.length : Int))) h14 h (fun h => ?_) (fun h => ?_)
    · refine .skip ?_
      refine .nsq ?_
      refine .seq ?_
      refine .block ?_
      refine .seq ?_
      refine run_reg ?_
      refine e_end ?_
      refine g_v1 (t := 0) (u := (Enc.enc (a_1 : List (Int × Int)))) (Enc.enc (a_1 : List (Int × Int))) h0 rfl rfl ?_
      refine g_v1 (t := 5) (u := (.int .i64 i_6)) (.int .i64 i_6) h5 rfl rfl ?_
      obtain ⟨e_10, E_e_10, h⟩ := bind_some h
      refine g_v (.ref .sh 0 [] (.agg [(.int .i64 e_10.1), (.int .i64 e_10.2)])) (ev_idx (t := .sh) (lo := 0) (xs := a_1) rfl rfl E_e_10 rfl rfl) ?_
      refine g_v1 (t := 19) (u := (.ref .sh 0 [] (.agg [(.int .i64 e_10.1), (.int .i64 e_10.2)]))) (.agg [(.int .i64 e_10.1), (.int .i64 e_10.2)]) rfl rfl rfl ?_
      refine g_v1 (t := 1) (u := (Enc.enc (b_2 : List (Int × Int)))) (Enc.enc (b_2 : List (Int × Int))) h1 rfl rfl ?_
      refine g_v1 (t := 5) (u := (.int .i64 i_6)) (.int .i64 i_6) h5 rfl rfl ?_
      obtain ⟨e_11, E_e_11, h⟩ := bind_some h
      refine g_v (.ref .sh 0 [] (.agg [(.int .i64 e_11.1), (.int .i64 e_11.2)])) (ev_idx (t := .sh) (lo := 0) (xs := b_2) rfl rfl E_e_11 rfl rfl) ?_
      refine g_v1 (t := 23) (u := (.ref .sh 0 [] (.agg [(.int .i64 e_11.1), (.int .i64 e_11.2)]))) (.agg [(.int .i64 e_11.1), (.int .i64 e_11.2)]) rfl rfl rfl ?_
      obtain ⟨r_12, E_r_12, h⟩ := bind_some h
      refine g_call (m := 0) (al := false) (r := (Enc.enc (r_12 : Bool))) [Enc.enc (e_10 : (Int × Int)), Enc.enc (e_11 : (Int × Int))] (ta_cons (v := (.agg [(.int .i64 e_10.1), (.int .i64 e_10.2)])) rfl rfl (Enc.erase_enc (e_10 : (Int × Int))) (ta_cons (v := (.agg [(.int .i64 e_11.1), (.int .i64 e_11.2)])) rfl rfl (Enc.erase_enc (e_11 : (Int × Int))) ta_nil)) (H.c103 _ _ _ E_r_12) H.g103 rfl rfl rfl rfl ?_
      refine g_v1 (t := 25) (u := (.bool r_12)) (.bool (!r_12)) rfl rfl rfl ?_
      refine g_end ?_
      refine e_end ?_
      refine renew [(0, (Enc.enc (a_1 : List (Int × Int)))), (1, (Enc.enc (b_2 : List (Int × Int)))), (4, (.bool false)), (5, (.int .i64 i_6)), (26, (.bool (!r_12)))] ⟨h0, h1, h4, h5, rfl⟩ ?_
      rintro s ⟨h0, h1, h4, h5, h26⟩
      refine .nsq ?_
      refine run_cond (t := (!r_12)) h26 h (fun h => ?_) (fun h => ?_)
      · refine .seq ?_
        refine run_reg ?_
        refine e_end ?_
        refine g_v0 (.bool false) rfl rfl ?_
        refine g_end ?_
        refine e_end ?_
        refine renew [(0, (Enc.enc (a_1 : List (Int × Int)))), (1, (Enc.enc (b_2 : List (Int × Int)))), (4, (.bool false)), (5, (.int .i64 i_6))] ⟨h0, h1, rfl, h5⟩ ?_
        rintro s ⟨h0, h1, h4, h5⟩
        refine .nsq ?_
        refine .ret ?_
        have hr := Option.some.inj h
        subst hr
        exact rrA (res_tmp h4) rfl
      · refine .skip ?_
        refine .nbk ?_
        refine .nsq ?_
        refine run_reg ?_
        refine e_end ?_
        refine g_v1 (t := 5) (u := (.int .i64 i_6)) (.int .i64 i_6) h5 rfl rfl ?_
        refine g_v1 (t := 15) (u := (.int .i64 i_6)) (.int .i64 (w64 (i_6 + 1))) rfl rfl rfl ?_
        refine g_v1 (t := 16) (u := (.int .i64 (w64 (i_6 + 1)))) (.int .i64 (w64 (i_6 + 1))) rfl rfl rfl ?_
        refine g_end ?_
        refine e_end ?_
        refine renew [(0, (Enc.enc (a_1 : List (Int × Int)))), (1, (Enc.enc (b_2 : List (Int × Int)))), (4, (.bool false)), (5, (.int .i64 (w64 (i_6 + 1))))] ⟨h0, h1, h4, rfl⟩ ?_
        rintro s ⟨h0, h1, h4, h5⟩
        refine .nlp ?_
        exact ih (w64 (i_6 + 1)) _ ⟨h0, h1, h4, h5⟩ h
    · refine .exit ?_
      refine .esq ?_
      refine .elp ?_
      refine .ebk ?_
      refine .nsq ?_
      refine .seq ?_
      refine run_reg ?_
      refine e_end ?_
      refine g_v0 (.bool true) rfl rfl ?_
      refine g_end ?_
      refine e_end ?_
      refine renew [(4, (.bool true))] rfl ?_
      rintro s h4
      refine .nsq ?_
      refine .ret ?_
      have hr := Option.some.inj h
      subst hr
      exact rrA (res_tmp h4) rfl
def w_eqIntA2S (F : Nat) (a_1 : (List (Int × Int))) (b_2 : (List (Int × Int))) : Option Bool :=
  bif ((a_1.length : Int) != (b_2.length : Int)) then
    some false
  else
    w_eqIntA2S_l1 F a_1 b_2 F 0
theorem t54 (H : H54 D σ F) (a_1 : (List (Int × Int))) (b_2 : (List (Int × Int))) (s : Nat → V) (hs : Facts [(0, (Enc.enc (a_1 : List (Int × Int)))), (1, (Enc.enc (b_2 : List (Int × Int))))] s) (h : w_eqIntA2S F a_1 b_2 = some r) : Run D σ (R54 r) (.run A54 []) s := by
  unfold w_eqIntA2S at h
  obtain ⟨h0, h1⟩ := hs
  refine .seq ?_
  refine run_reg ?_
  refine e_end ?_
  refine g_v0 (.bool false) rfl rfl ?_
  refine g_end ?_
  refine e_end ?_
  refine renew [(0, (Enc.enc (a_1 : List (Int × Int)))), (1, (Enc.enc (b_2 : List (Int × Int)))), (4, (.bool false))] ⟨h0, h1, rfl⟩ ?_
  rintro s ⟨h0, h1, h4⟩
  refine .nsq ?_
  refine .seq ?_
  refine .seq ?_
  refine run_reg ?_
  refine e_end ?_
  refine g_v1 (t := 0) (u := (Enc.enc (a_1 : List (Int × Int)))) (Enc.enc (a_1 : List (Int × Int))) h0 rfl rfl ?_
  refine g_v (.int .i64 (a_1.length : Int)) (ev_len (xs := a_1) rfl) ?_
  refine g_v1 (t := 1) (u := (Enc.enc (b_2 : List (Int × Int)))) (Enc.enc (b_2 : List (Int × Int))) h1 rfl rfl ?_
  refine g_v (.int .i64 (b_2.length : Int)) (ev_len (xs := b_2) rfl) ?_
  refine g_v2 (t1 := 7) (t2 := 9) (u1 := (.int .i64 (a_1.length : Int))) (u2 := (.int .i64 (b_2.length : Int))) (.bool ((a_1.length : Int) != (b_2.length : Int))) rfl rfl rfl rfl ?_
  refine g_end ?_
  refine e_end ?_
  refine renew [(0, (Enc.enc (a_1 : List (Int × Int)))), (1, (Enc.enc (b_2 : List (Int × Int)))), (4, (.bool false)), (10, (.bool ((a_1.length : Int) != (b_2.length : Int))))] ⟨h0, h1, h4, rfl⟩ ?_
  rintro s ⟨h0, h1, h4, h10⟩
  refine .nsq ?_
  refine run_cond (t := ((a_1.length : Int) != (b_2.length : Int))) h10 h (fun h => ?_) (fun h => ?_)
  · refine .seq ?_
    refine run_reg ?_
    refine e_end ?_
    refine g_v0 (.bool false) rfl rfl ?_
    refine g_end ?_
    refine e_end ?_
    refine renew [(0, (Enc.enc (a_1 : List (Int × Int)))), (1, (Enc.enc (b_2 : List (Int × Int)))), (4, (.bool false))] ⟨h0, h1, rfl⟩ ?_
    rintro s ⟨h0, h1, h4⟩
    refine .nsq ?_
    refine .ret ?_
    have hr := Option.some.inj h
    subst hr
    exact rrA (res_tmp h4) rfl
  · refine .skip ?_
    refine .nsq ?_
    refine .seq ?_
    refine .seq ?_
    refine run_reg ?_
    refine e_end ?_
    refine g_v0 (.int .i64 0) rfl rfl ?_
    refine g_end ?_
    refine e_end ?_
    refine renew [(0, (Enc.enc (a_1 : List (Int × Int)))), (1, (Enc.enc (b_2 : List (Int × Int)))), (4, (.bool false)), (5, (.int .i64 0))] ⟨h0, h1, h4, rfl⟩ ?_
    rintro s ⟨h0, h1, h4, h5⟩
    refine .nsq ?_
    refine .block ?_
    refine .loop ?_
    exact t_f54_l1 H a_1 b_2 F 0 _ ⟨h0, h1, h4, h5⟩ h
end
def e54 (F : Nat) : Ent := ⟨54, da (fun (x : ((List (Int × Int)) × (List (Int × Int)) × Unit)) => w_eqIntA2S F x.1 x.2.1) (fun (r : Bool) => (Enc.enc (r : Bool))), 0, false, selF []⟩
theorem p54 {F : Nat} {x0 : (List (Int × Int))} {x1 : (List (Int × Int))} {r : Bool} (h : w_eqIntA2S F x0 x1 = some r) : (e54 F).den [Enc.enc x0, Enc.enc x1] = some (Enc.enc (r : Bool)) := da_put (f := fun (x : ((List (Int × Int)) × (List (Int × Int)) × Unit)) => w_eqIntA2S F x.1 x.2.1) (t := fun (r : Bool) => (Enc.enc (r : Bool))) (x0, x1, ()) h
theorem o54 {D : Den} {σ : Sig} {F : Nat} (hF : Fits2 Try.prog D σ) (H : H54 D σ F) : (e54 F).Ok Try.prog := by
  refine ok_of (f := 54) (show unk 54 = 54 from rfl) (fun args r h => ?_) ⟨Try.f54, Try.func54, rfl, rfl⟩
  obtain ⟨⟨x0, x1, _⟩, y, rfl, hy, rfl⟩ := da_open h
  exact contract_run hF (by kernel_rfl) Try.func54 rfl c54 (show 2 ≤ Try.f54.ntmps by decide) (t54 H x0 x1 _ ⟨rfl, rfl⟩ hy)
/- loop.example/g01109/laws.eqGraph -/
def A20_2 : AC := (AC.cond (O.t 9) (AC.seq (AC.reg [] [(I.mk (some 4) none false (X.v (A.mov (O.k (V.bool false)))))] []) AC.ret) AC.skip)
def A20_4 : AC := (AC.cond (O.t 15) (AC.seq (AC.reg [] [(I.mk (some 4) none false (X.v (A.mov (O.k (V.bool false)))))] []) AC.ret) AC.skip)
def A20_5 : AC := (AC.seq (AC.reg [] [(I.mk (some 4) none false (X.v (A.mov (O.k (V.bool true)))))] []) AC.ret)
def A20_3 : AC := (AC.seq (AC.seq (AC.reg [] [(I.mk (some 10) none false (X.v (A.fld (O.t 2) 1 1))), (I.mk (some 11) none false (X.v (A.load Sh.p (O.t 10)))), (I.mk (some 12) none false (X.v (A.fld (O.t 3) 1 1))), (I.mk (some 13) none false (X.v (A.load Sh.p (O.t 12)))), (I.mk (some 14) none false (X.call (O.k (V.fn 54 [] [])) [(O.t 11), (O.t 13)])), (I.mk (some 15) none false (X.v (A.un UnOp.not (O.t 14))))] []) A20_4) A20_5)
def A20_1 : AC := (AC.seq (AC.seq (AC.reg [] [(I.mk (some 5) none false (X.v (A.fld (O.t 2) 0 0))), (I.mk (some 6) none false (X.v (A.load Sh.s (O.t 5)))), (I.mk (some 7) none false (X.v (A.fld (O.t 3) 0 0))), (I.mk (some 8) none false (X.v (A.load Sh.s (O.t 7)))), (I.mk (some 9) none false (X.v (A.bin BinOp.neq (O.t 6) (O.t 8))))] []) A20_2) A20_3)
def A20 : AC := (AC.seq (AC.reg [.clr [2, 3]] [(I.mk (some 2) none false (X.box (O.t 0))), (I.mk (some 3) none false (X.box (O.t 1))), (I.mk (some 4) none false (X.v (A.mov (O.k (V.bool false)))))] []) A20_1)
def an20 : List An := [{ id := 0, pre := [.clr [2, 3]], ep := [], lin := [], sp := [] }]
theorem c20 : cC Try.prog Try.f20.ntmps an20 (Try.f20.body.getD .skip) = some A20 := by kernel_rfl
structure H20 (D : Den) (σ : Sig) (F : Nat) : Prop where
  c54 : ∀ (x0 : (List (Int × Int))) (x1 : (List (Int × Int))) r, w_eqIntA2S F x0 x1 = some r → D 54 [Enc.enc x0, Enc.enc x1] = some (Enc.enc (r : Bool))
  g54 : σ 54 = some (0, false)
abbrev R20 (r : Bool) : (Nat → V) → Prop := RR Try.prog [.tmp 4] 0 false (Enc.enc (r : Bool))
section
variable {D : Den} {σ : Sig} {F : Nat} {r : Bool}
def w_eqGraph (F : Nat) (a_1 : (Int × (List (Int × Int)))) (b_2 : (Int × (List (Int × Int)))) : Option Bool :=
  bif (a_1.1 != b_2.1) then
    some false
  else
    (w_eqIntA2S F a_1.2 b_2.2).bind fun r_3 =>
    bif (!r_3) then
      some false
    else
      some true
theorem t20 (H : H20 D σ F) (a_1 : (Int × (List (Int × Int)))) (b_2 : (Int × (List (Int × Int)))) (s : Nat → V) (hs : Facts [(0, (.agg [(.int .i64 a_1.1), (Enc.enc (a_1.2 : List (Int × Int)))])), (1, (.agg [(.int .i64 b_2.1), (Enc.enc (b_2.2 : List (Int × Int)))]))] s) (h : w_eqGraph F a_1 b_2 = some r) : Run D σ (R20 r) (.run A20 []) s := by
  unfold w_eqGraph at h
  obtain ⟨h0, h1⟩ := hs
  refine .seq ?_
  refine run_reg ?_
  refine e_clr ?_
  refine e_end ?_
  refine g_box (.agg [(.int .i64 a_1.1), (Enc.enc (a_1.2 : List (Int × Int)))]) (rd_of (keep_clear (s := s) (pk := [2, 3]) h0 rfl (map_agg (maps_cons rfl (maps_cons (Enc.map_enc _ (a_1.2 : List (Int × Int))) maps_nil)))) rfl) (gone_clear (s := s) (pk := [2, 3]) (t := 2) rfl) rfl ?_
  refine g_box (.agg [(.int .i64 b_2.1), (Enc.enc (b_2.2 : List (Int × Int)))]) (rd_of (keep_clear (s := s) (pk := [2, 3]) h1 rfl (map_agg (maps_cons rfl (maps_cons (Enc.map_enc _ (b_2.2 : List (Int × Int))) maps_nil)))) rfl) (gone_clear (s := s) (pk := [2, 3]) (t := 3) rfl) rfl ?_
  refine g_v0 (.bool false) rfl rfl ?_
  refine g_end ?_
  refine e_end ?_
  refine renew [(2, (.ref (.bx 2) 0 [] (.agg [(.int .i64 a_1.1), (Enc.enc (a_1.2 : List (Int × Int)))]))), (3, (.ref (.bx 3) 0 [] (.agg [(.int .i64 b_2.1), (Enc.enc (b_2.2 : List (Int × Int)))]))), (4, (.bool false))] ⟨rfl, rfl, rfl⟩ ?_
  rintro s ⟨h2, h3, h4⟩
  refine .nsq ?_
  refine .seq ?_
  refine .seq ?_
  refine run_reg ?_
  refine e_end ?_
  refine g_v1 (t := 2) (u := (.ref (.bx 2) 0 [] (.agg [(.int .i64 a_1.1), (Enc.enc (a_1.2 : List (Int × Int)))]))) (.ref (.bx 2) 0 [0] (.int .i64 a_1.1)) h2 rfl rfl ?_
  refine g_v1 (t := 5) (u := (.ref (.bx 2) 0 [0] (.int .i64 a_1.1))) (.int .i64 a_1.1) rfl rfl rfl ?_
  refine g_v1 (t := 3) (u := (.ref (.bx 3) 0 [] (.agg [(.int .i64 b_2.1), (Enc.enc (b_2.2 : List (Int × Int)))]))) (.ref (.bx 3) 0 [0] (.int .i64 b_2.1)) h3 rfl rfl ?_
  refine g_v1 (t := 7) (u := (.ref (.bx 3) 0 [0] (.int .i64 b_2.1))) (.int .i64 b_2.1) rfl rfl rfl ?_
  refine g_v2 (t1 := 6) (t2 := 8) (u1 := (.int .i64 a_1.1)) (u2 := (.int .i64 b_2.1)) (.bool (a_1.1 != b_2.1)) rfl rfl rfl rfl ?_
  refine g_end ?_
  refine e_end ?_
  refine renew [(2, (.ref (.bx 2) 0 [] (.agg [(.int .i64 a_1.1), (Enc.enc (a_1.2 : List (Int × Int)))]))), (3, (.ref (.bx 3) 0 [] (.agg [(.int .i64 b_2.1), (Enc.enc (b_2.2 : List (Int × Int)))]))), (4, (.bool false)), (9, (.bool (a_1.1 != b_2.1)))] ⟨h2, h3, h4, rfl⟩ ?_
  rintro s ⟨h2, h3, h4, h9⟩
  refine .nsq ?_
  refine run_cond (t := (a_1.1 != b_2.1)) h9 h (fun h => ?_) (fun h => ?_)
  · refine .seq ?_
    refine run_reg ?_
    refine e_end ?_
    refine g_v0 (.bool false) rfl rfl ?_
    refine g_end ?_
    refine e_end ?_
    refine renew [(2, (.ref (.bx 2) 0 [] (.agg [(.int .i64 a_1.1), (Enc.enc (a_1.2 : List (Int × Int)))]))), (3, (.ref (.bx 3) 0 [] (.agg [(.int .i64 b_2.1), (Enc.enc (b_2.2 : List (Int × Int)))]))), (4, (.bool false))] ⟨h2, h3, rfl⟩ ?_
    rintro s ⟨h2, h3, h4⟩
    refine .nsq ?_
    refine .ret ?_
    have hr := Option.some.inj h
    subst hr
    exact rrA (res_tmp h4) rfl
  · refine .skip ?_
    refine .nsq ?_
    refine .seq ?_
    refine .seq ?_
    refine run_reg ?_
    refine e_end ?_
    refine g_v1 (t := 2) (u := (.ref (.bx 2) 0 [] (.agg [(.int .i64 a_1.1), (Enc.enc (a_1.2 : List (Int × Int)))]))) (.ref (.bx 2) 0 [1] (Enc.enc (a_1.2 : List (Int × Int)))) h2 rfl rfl ?_
    refine g_v1 (t := 10) (u := (.ref (.bx 2) 0 [1] (Enc.enc (a_1.2 : List (Int × Int))))) (Enc.enc (a_1.2 : List (Int × Int))) rfl rfl rfl ?_
    refine g_v1 (t := 3) (u := (.ref (.bx 3) 0 [] (.agg [(.int .i64 b_2.1), (Enc.enc (b_2.2 : List (Int × Int)))]))) (.ref (.bx 3) 0 [1] (Enc.enc (b_2.2 : List (Int × Int)))) h3 rfl rfl ?_
    refine g_v1 (t := 12) (u := (.ref (.bx 3) 0 [1] (Enc.enc (b_2.2 : List (Int × Int))))) (Enc.enc (b_2.2 : List (Int × Int))) rfl rfl rfl ?_
    obtain ⟨r_3, E_r_3, h⟩ := bind_some h
    refine g_call (m := 0) (al := false) (r := (Enc.enc (r_3 : Bool))) [Enc.enc (a_1.2 : (List (Int × Int))), Enc.enc (b_2.2 : (List (Int × Int)))] (ta_cons (v := (Enc.enc (a_1.2 : List (Int × Int)))) rfl rfl (Enc.erase_enc (a_1.2 : (List (Int × Int)))) (ta_cons (v := (Enc.enc (b_2.2 : List (Int × Int)))) rfl rfl (Enc.erase_enc (b_2.2 : (List (Int × Int)))) ta_nil)) (H.c54 _ _ _ E_r_3) H.g54 rfl rfl rfl rfl ?_
    refine g_v1 (t := 14) (u := (.bool r_3)) (.bool (!r_3)) rfl rfl rfl ?_
    refine g_end ?_
    refine e_end ?_
    refine renew [(4, (.bool false)), (15, (.bool (!r_3)))] ⟨h4, rfl⟩ ?_
    rintro s ⟨h4, h15⟩
    refine .nsq ?_
    refine run_cond (t := (!r_3)) h15 h (fun h => ?_) (fun h => ?_)
    · refine .seq ?_
      refine run_reg ?_
      refine e_end ?_
      refine g_v0 (.bool false) rfl rfl ?_
      refine g_end ?_
      refine e_end ?_
      refine renew [(4, (.bool false))] rfl ?_
      rintro s h4
      refine .nsq ?_
      refine .ret ?_
      have hr := Option.some.inj h
      subst hr
      exact rrA (res_tmp h4) rfl
    · refine .skip ?_
      refine .nsq ?_
      refine .seq ?_
      refine run_reg ?_
      refine e_end ?_
      refine g_v0 (.bool true) rfl rfl ?_
      refine g_end ?_
      refine e_end ?_
      refine renew [(4, (.bool true))] rfl ?_
      rintro s h4
      refine .nsq ?_
      refine .ret ?_
      have hr := Option.some.inj h
      subst hr
      exact rrA (res_tmp h4) rfl
end
def e20 (F : Nat) : Ent := ⟨20, da (fun (x : ((Int × (List (Int × Int))) × (Int × (List (Int × Int))) × Unit)) => w_eqGraph F x.1 x.2.1) (fun (r : Bool) => (Enc.enc (r : Bool))), 0, false, selF []⟩
theorem p20 {F : Nat} {x0 : (Int × (List (Int × Int)))} {x1 : (Int × (List (Int × Int)))} {r : Bool} (h : w_eqGraph F x0 x1 = some r) : (e20 F).den [Enc.enc x0, Enc.enc x1] = some (Enc.enc (r : Bool)) := da_put (f := fun (x : ((Int × (List (Int × Int))) × (Int × (List (Int × Int))) × Unit)) => w_eqGraph F x.1 x.2.1) (t := fun (r : Bool) => (Enc.enc (r : Bool))) (x0, x1, ()) h
theorem o20 {D : Den} {σ : Sig} {F : Nat} (hF : Fits2 Try.prog D σ) (H : H20 D σ F) : (e20 F).Ok Try.prog := by
  refine ok_of (f := 20) (show unk 20 = 20 from rfl) (fun args r h => ?_) ⟨Try.f20, Try.func20, rfl, rfl⟩
  obtain ⟨⟨x0, x1, _⟩, y, rfl, hy, rfl⟩ := da_open h
  exact contract_run hF (by kernel_rfl) Try.func20 rfl c20 (show 2 ≤ Try.f20.ntmps by decide) (t20 H x0 x1 _ ⟨rfl, rfl⟩ hy)
/- loop.example/g01109/laws.toIntA2S -/
def A50o_2 : AC := (AC.cond (O.t 11) AC.skip (AC.exit 0))
def A50o_4 : AC := (AC.reg [] [(I.mk (some 12) none false (X.v (A.mov (O.t 4)))), (I.mk (some 13) none false (X.v (A.bin BinOp.add (O.t 12) (O.k (V.int IntKind.i64 (Int.ofNat 1)))))), (I.mk (some 4) none false (X.v (A.mov (O.t 13))))] [])
def A50o_3 : AC := (AC.seq (AC.block 1 (AC.reg [] [(I.mk (some 14) none false (X.v (A.mov (O.t 3)))), (I.mk (some 15) none false (X.v (A.mov (O.t 4)))), (I.mk (some 16) none false (X.v (A.mov (O.t 0)))), (I.mk (some 17) none false (X.v (A.mov (O.t 4)))), (I.mk (some 18) none false (X.v (A.idx (O.t 16) (O.t 17) 2))), (I.mk (some 19) none false (X.v (A.load (Sh.ag [Sh.s, Sh.s]) (O.t 18)))), (I.mk (some 20) none false (X.call (O.k (V.fn 99 [] [])) [(O.t 19)])), (I.mk (some 21) none false (X.v (A.idx (O.t 14) (O.t 15) 2))), (I.mk none none false (X.store (Sh.ag [Sh.s, Sh.s]) (O.t 21) (O.t 20)))] [])) A50o_4)
def A50o_1 : AC := (AC.seq (AC.seq (AC.reg [] [(I.mk (some 8) none false (X.v (A.mov (O.t 4)))), (I.mk (some 9) none false (X.v (A.mov (O.t 0)))), (I.mk (some 10) none false (X.v (A.len (O.t 9)))), (I.mk (some 11) none false (X.v (A.bin BinOp.lss (O.t 8) (O.t 10))))] []) A50o_2) A50o_3)
def A50o_5 : AC := (AC.seq (AC.reg [] [(I.mk (some 22) none false (X.v (A.mov (O.t 3)))), (I.mk (some 2) none false (X.v (A.mov (O.t 22))))] [.home 3 2]) AC.ret)
def A50o_8 : AC := (AC.block 0 (AC.loop A50o_1))
def A50o_7 : AC := (AC.seq (AC.seq (AC.reg [] [(I.mk (some 4) none false (X.v (A.mov (O.k (V.int IntKind.i64 (Int.ofNat 0))))))] []) A50o_8) A50o_5)
def A50o_6 : AC := (AC.seq (AC.reg [.clr [7]] [(I.mk (some 5) none false (X.v (A.mov (O.t 0)))), (I.mk (some 6) none false (X.v (A.len (O.t 5)))), (I.mk (some 7) none false (X.mk (O.t 6) (V.agg [(V.int IntKind.i64 (Int.ofNat 0)), (V.int IntKind.i64 (Int.ofNat 0))]))), (I.mk (some 3) none false (X.v (A.mov (O.t 7))))] [.home 7 3]) A50o_7)
def A50o : AC := (AC.seq (AC.reg [] [(I.mk (some 2) none false (X.v (A.mov (O.k (V.sl Tok.nl (Sh.ag [Sh.s, Sh.s]) 0 [])))))] []) A50o_6)
def an50o : List An := [{ id := 1, pre := [.clr [7]], ep := [.home 7 3], lin := [], sp := [] }, { id := 6, pre := [], ep := [.home 3 2], lin := [], sp := [] }]
theorem c50o : cC Try.prog Try.f50.ntmps an50o (Try.f50.body.getD .skip) = some A50o := by kernel_rfl
structure H50o (D : Den) (σ : Sig) (F : Nat) : Prop where
  c99 : ∀ (x0 : (Int × Int)) r, w_toIntA2 F x0 = some r → D 99 [Enc.enc x0] = some (Enc.enc (r : (Int × Int)))
  g99 : σ 99 = some (0, false)
abbrev R50o (r : (NL (Int × Int))) : (Nat → V) → Prop := RR Try.prog [.tmp 2] 1 false (encO .sh (r : NL (Int × Int)))
section
variable {D : Den} {σ : Sig} {F : Nat} {r : (NL (Int × Int))}
def w_toIntA2S_o_l1 (F : Nat) (a_1 : (List (Int × Int)))  : Nat → (List (Int × Int)) → Int → Option (NL (Int × Int))
  | 0, _, _ => none
  | k + 1, out_6, i_7 =>
    bif decide (i_7 < (a_1.length : Int)) then
      (idx a_1 i_7).bind fun e_11 =>
      (w_toIntA2 F e_11).bind fun r_12 =>
      (idx out_6 i_7).bind fun e_13 =>
      (w_toIntA2S_o_l1 F a_1 k) (out_6.set i_7.toNat r_12) (w64 (i_7 + 1))
    else
      some (.of out_6)
theorem t_f50o_l1 (H : H50o D σ F) (a_1 : (List (Int × Int)))  : ∀ (k : Nat) (out_6 : (List (Int × Int))) (i_7 : Int) (s : Nat → V), Facts [(0, (Enc.enc (a_1 : List (Int × Int)))), (2, (.sl .nl (Enc.shp (Int × Int)) 0 [])), (3, (encO (.at 3 []) (.of (out_6 : List (Int × Int))))), (4, (.int .i64 i_7))] s → w_toIntA2S_o_l1 F a_1 k out_6 i_7 = some r → Run D σ (R50o r) (.run A50o_1 [.lp A50o_1, .bk 0, .sq A50o_5]) s := by
  intro k
  induction k with
  | zero => intro out_6 i_7 s _ h; exact nomatch (h : (none : Option _) = some r)
  | succ k ih =>
    intro out_6 i_7 s hs h
    rw [w_toIntA2S_o_l1] at h
    obtain ⟨h0, h2, h3, h4⟩ := hs
    refine .seq ?_
    refine .seq ?_
    refine run_reg ?_
    refine e_end ?_
    refine g_v1 (t := 4) (u := (.int .i64 i_7)) (.int .i64 i_7) h4 rfl rfl ?_
    refine g_v1 (t := 0) (u := (Enc.enc (a_1 : List (Int × Int)))) (Enc.enc (a_1 : List (Int × Int))) h0 rfl rfl ?_
    refine g_v (.int .i64 (a_1.length : Int)) (ev_len (xs := a_1) rfl) ?_
    refine g_v2 (t1 := 8) (t2 := 10) (u1 := (.int .i64 i_7)) (u2 := (.int .i64 (a_1.length : Int))) (.bool (decide (i_7 < (a_1.length : Int)))) rfl rfl rfl rfl ?_
    refine g_end ?_
    refine e_end ?_
    refine renew [(0, (Enc.enc (a_1 : List (Int × Int)))), (2, (.sl .nl (Enc.shp (Int × Int)) 0 [])), (3, (encO (.at 3 []) (.of (out_6 : List (Int × Int))))), (4, (.int .i64 i_7)), (11, (.bool (decide (i_7 < (a_1.length : Int)))))] ⟨h0, h2, h3, h4, rfl⟩ ?_
    rintro s ⟨h0, h2, h3, h4, h11⟩
    refine .nsq ?_
    refine run_cond (t := decide (i_7 < (a_1.length : Int))) h11 h (fun h => ?_) (fun h => ?_)
    · refine .skip ?_
      refine .nsq ?_
      refine .seq ?_
      refine .block ?_
      refine run_reg ?_
      refine e_end ?_
      refine g_v1 (t := 3) (u := (encO (.at 3 []) (.of (out_6 : List (Int × Int))))) (encO (.at 3 []) (.of (out_6 : List (Int × Int)))) h3 rfl rfl ?_
      refine g_v1 (t := 4) (u := (.int .i64 i_7)) (.int .i64 i_7) h4 rfl rfl ?_
      refine g_v1 (t := 0) (u := (Enc.enc (a_1 : List (Int × Int)))) (Enc.enc (a_1 : List (Int × Int))) h0 rfl rfl ?_
      refine g_v1 (t := 4) (u := (.int .i64 i_7)) (.int .i64 i_7) h4 rfl rfl ?_
      obtain ⟨e_11, E_e_11, h⟩ := bind_some h
      refine g_v (.ref .sh 0 [] (.agg [(.int .i64 e_11.1), (.int .i64 e_11.2)])) (ev_idx (t := .sh) (lo := 0) (xs := a_1) rfl rfl E_e_11 rfl rfl) ?_
      refine g_v1 (t := 18) (u := (.ref .sh 0 [] (.agg [(.int .i64 e_11.1), (.int .i64 e_11.2)]))) (.agg [(.int .i64 e_11.1), (.int .i64 e_11.2)]) rfl rfl rfl ?_
      obtain ⟨r_12, E_r_12, h⟩ := bind_some h
      refine g_call (m := 0) (al := false) (r := (Enc.enc (r_12 : (Int × Int)))) [Enc.enc (e_11 : (Int × Int))] (ta_cons (v := (.agg [(.int .i64 e_11.1), (.int .i64 e_11.2)])) rfl rfl (Enc.erase_enc (e_11 : (Int × Int))) ta_nil) (H.c99 _ _ E_r_12) H.g99 rfl rfl rfl rfl ?_
      obtain ⟨e_13, E_e_13, h⟩ := bind_some h
      refine g_v (.ref (.at 3 []) i_7.toNat [] (.agg [(.int .i64 e_13.1), (.int .i64 e_13.2)])) (ev_idxO (o := (.of out_6)) rfl rfl E_e_13 rfl) ?_
      refine g_store (.agg [(.int .i64 r_12.1), (.int .i64 r_12.2)]) (rd_of rfl rfl) (rd_of rfl rfl) (by refine ⟨by decide, by decide, rfl, rfl, rfl, ?_⟩; first | rfl | simp [V.toks, V.tokss, Enc.toks_enc]) ?_
      refine g_end ?_
      refine e_end ?_
      refine renew [(0, (Enc.enc (a_1 : List (Int × Int)))), (2, (.sl .nl (Enc.shp (Int × Int)) 0 [])), (3, (encO (.at 3 []) (.of (out_6.set i_7.toNat r_12 : List (Int × Int))))), (4, (.int .i64 i_7))] ⟨(keep_mut h0 (Enc.mut_enc _ _ _ _ (a_1 : List (Int × Int)))), (keep_mut h2 rfl), (keep_mut h3 mut_own), (keep_mut h4 rfl)⟩ ?_
      rintro s ⟨h0, h2, h3, h4⟩
      refine .nbk ?_
      refine .nsq ?_
      refine run_reg ?_
      refine e_end ?_
      refine g_v1 (t := 4) (u := (.int .i64 i_7)) (.int .i64 i_7) h4 rfl rfl ?_
      refine g_v1 (t := 12) (u := (.int .i64 i_7)) (.int .i64 (w64 (i_7 + 1))) rfl rfl rfl ?_
      refine g_v1 (t := 13) (u := (.int .i64 (w64 (i_7 + 1)))) (.int .i64 (w64 (i_7 + 1))) rfl rfl rfl ?_
      refine g_end ?_
      refine e_end ?_
      refine renew [(0, (Enc.enc (a_1 : List (Int × Int)))), (2, (.sl .nl (Enc.shp (Int × Int)) 0 [])), (3, (encO (.at 3 []) (.of (out_6.set i_7.toNat r_12 : List (Int × Int))))), (4, (.int .i64 (w64 (i_7 + 1))))] ⟨h0, h2, h3, rfl⟩ ?_
      rintro s ⟨h0, h2, h3, h4⟩
      refine .nlp ?_
      exact ih (out_6.set i_7.toNat r_12) (w64 (i_7 + 1)) _ ⟨h0, h2, h3, h4⟩ h
    · refine .exit ?_
      refine .esq ?_
      refine .elp ?_
      refine .ebk ?_
      refine .nsq ?_
      refine .seq ?_
      refine run_reg ?_
      refine e_end ?_
      refine g_v1 (t := 3) (u := (encO (.at 3 []) (.of (out_6 : List (Int × Int))))) (encO (.at 3 []) (.of (out_6 : List (Int × Int)))) h3 rfl rfl ?_
      refine g_v1 (t := 22) (u := (encO (.at 3 []) (.of (out_6 : List (Int × Int))))) (encO (.at 3 []) (.of (out_6 : List (Int × Int)))) rfl rfl rfl ?_
      refine g_end ?_
      refine e_home (r := 3) (x := 2) (v := (encO (.at 3 []) (.of (out_6 : List (Int × Int))))) (by exact rfl) rfl (fun s_3 hg_3 => ?_)
      refine e_end ?_
      refine renew [(2, (encO (.at 2 []) (.of (out_6 : List (Int × Int)))))] (hg_3 2 (encO (.at 3 []) (.of (out_6 : List (Int × Int)))) (encO (.at 2 []) (.of (out_6 : List (Int × Int)))) rfl (map_encO (r := 3) (p := []) rfl rfl)) ?_
      rintro s h2
      refine .nsq ?_
      refine .ret ?_
      have hr := Option.some.inj h
      subst hr
      exact rrA (res_tmp h2) (fin_retO (finO_own (o := ((.of out_6) : NL (Int × Int)))) rfl (mine_own rfl))
def w_toIntA2S_o (F : Nat) (a_1 : (List (Int × Int))) : Option (NL (Int × Int)) :=
  (mkN (a_1.length : Int) (0, 0)).bind fun mk_2 =>
  w_toIntA2S_o_l1 F a_1 F mk_2 0
theorem t50o (H : H50o D σ F) (a_1 : (List (Int × Int))) (s : Nat → V) (hs : Facts [(0, (Enc.enc (a_1 : List (Int × Int))))] s) (h : w_toIntA2S_o F a_1 = some r) : Run D σ (R50o r) (.run A50o []) s := by
  unfold w_toIntA2S_o at h
  have h0 := hs
  refine .seq ?_
  refine run_reg ?_
  refine e_end ?_
  refine g_v0 (.sl .nl (Enc.shp (Int × Int)) 0 []) rfl rfl ?_
  refine g_end ?_
  refine e_end ?_
  refine renew [(0, (Enc.enc (a_1 : List (Int × Int)))), (2, (.sl .nl (Enc.shp (Int × Int)) 0 []))] ⟨h0, rfl⟩ ?_
  rintro s ⟨h0, h2⟩
  refine .nsq ?_
  refine .seq ?_
  refine run_reg ?_
  refine e_clr ?_
  refine e_end ?_
  refine g_v1 (t := 0) (u := (Enc.enc (a_1 : List (Int × Int)))) (Enc.enc (a_1 : List (Int × Int))) (keep_clear (s := s) (pk := [7]) h0 rfl (Enc.map_enc _ (a_1 : List (Int × Int)))) rfl rfl ?_
  refine g_v (.int .i64 (a_1.length : Int)) (ev_len (xs := a_1) rfl) ?_
  obtain ⟨mk_2, E_mk_2, h⟩ := bind_some h
  refine g_mk ((0, 0) : (Int × Int)) rfl rfl (gone_clear (s := s) (pk := [7]) (t := 7) rfl) E_mk_2 ?_
  refine g_v1 (t := 7) (u := (encO (.at 7 []) (.of (mk_2 : List (Int × Int))))) (encO (.at 7 []) (.of (mk_2 : List (Int × Int)))) rfl rfl rfl ?_
  refine g_end ?_
  refine e_home (r := 7) (x := 3) (v := (encO (.at 7 []) (.of (mk_2 : List (Int × Int))))) (by exact rfl) rfl (fun s_2 hg_2 => ?_)
  refine e_end ?_
  refine renew [(0, (Enc.enc (a_1 : List (Int × Int)))), (2, (.sl .nl (Enc.shp (Int × Int)) 0 [])), (3, (encO (.at 3 []) (.of (mk_2 : List (Int × Int)))))] ⟨(hg_2 0 (Enc.enc (a_1 : List (Int × Int))) (Enc.enc (a_1 : List (Int × Int))) (keep_clear (s := s) (pk := [7]) h0 rfl (Enc.map_enc _ (a_1 : List (Int × Int)))) (Enc.map_enc _ (a_1 : List (Int × Int)))), (hg_2 2 (.sl .nl (Enc.shp (Int × Int)) 0 []) (.sl .nl (Enc.shp (Int × Int)) 0 []) (keep_clear (s := s) (pk := [7]) h2 rfl rfl) rfl), (hg_2 3 (encO (.at 7 []) (.of (mk_2 : List (Int × Int)))) (encO (.at 3 []) (.of (mk_2 : List (Int × Int)))) rfl (map_encO (r := 7) (p := []) rfl rfl))⟩ ?_
  rintro s ⟨h0, h2, h3⟩
  refine .nsq ?_
  refine .seq ?_
  refine .seq ?_
  refine run_reg ?_
  refine e_end ?_
  refine g_v0 (.int .i64 0) rfl rfl ?_
  refine g_end ?_
  refine e_end ?_
  refine renew [(0, (Enc.enc (a_1 : List (Int × Int)))), (2, (.sl .nl (Enc.shp (Int × Int)) 0 [])), (3, (encO (.at 3 []) (.of (mk_2 : List (Int × Int))))), (4, (.int .i64 0))] ⟨h0, h2, h3, rfl⟩ ?_
  rintro s ⟨h0, h2, h3, h4⟩
  refine .nsq ?_
  refine .block ?_
  refine .loop ?_
  exact t_f50o_l1 H a_1 F mk_2 0 _ ⟨h0, h2, h3, h4⟩ h
end
def e50o (F : Nat) : Ent := ⟨1000000050, da (fun (x : ((List (Int × Int)) × Unit)) => w_toIntA2S_o F x.1) (fun (r : (NL (Int × Int))) => (encO .sh (r : NL (Int × Int)))), 1, false, selF []⟩
theorem p50o {F : Nat} {x0 : (List (Int × Int))} {r : (NL (Int × Int))} (h : w_toIntA2S_o F x0 = some r) : (e50o F).den [Enc.enc x0] = some (encO .sh (r : NL (Int × Int))) := da_put (f := fun (x : ((List (Int × Int)) × Unit)) => w_toIntA2S_o F x.1) (t := fun (r : (NL (Int × Int))) => (encO .sh (r : NL (Int × Int)))) (x0, ()) h
theorem o50o {D : Den} {σ : Sig} {F : Nat} (hF : Fits2 Try.prog D σ) (H : H50o D σ F) : (e50o F).Ok Try.prog := by
  refine ok_of (f := 50) (show unk 1000000050 = 50 from rfl) (fun args r h => ?_) ⟨Try.f50, Try.func50, rfl, rfl⟩
  obtain ⟨⟨x0, _⟩, y, rfl, hy, rfl⟩ := da_open h
  exact contract_run hF (by kernel_rfl) Try.func50 rfl c50o (show 1 ≤ Try.f50.ntmps by decide) (t50o H x0 _ rfl hy)
/- loop.example/g01109/laws.toGraph -/
def A17o_4 : AC := (AC.seq (AC.reg [] [(I.mk (some 11) none false (X.v (A.load (Sh.ag [Sh.s, Sh.p]) (O.t 3)))), (I.mk none none false (X.store (Sh.ag [Sh.s, Sh.p]) (O.t 2) (O.t 11)))] []) AC.ret)
def A17o_3 : AC := (AC.seq (AC.reg [.clr [9]] [(I.mk (some 7) none false (X.v (A.fld (O.t 1) 1 1))), (I.mk (some 8) none false (X.v (A.load Sh.p (O.t 7)))), (I.mk (some 9) none false (X.callO (O.k (V.fn 50 [] [])) [(O.t 8)])), (I.mk (some 10) none false (X.v (A.fld (O.t 3) 1 1))), (I.mk none none false (X.store Sh.p (O.t 10) (O.t 9)))] []) A17o_4)
def A17o_2 : AC := (AC.seq (AC.reg [] [(I.mk (some 4) none false (X.v (A.fld (O.t 1) 0 0))), (I.mk (some 5) none false (X.v (A.load Sh.s (O.t 4)))), (I.mk (some 6) none false (X.v (A.fld (O.t 3) 0 0))), (I.mk none none false (X.store Sh.s (O.t 6) (O.t 5)))] []) A17o_3)
def A17o_1 : AC := (AC.seq (AC.reg [.clr [3]] [(I.mk (some 3) none false (X.alloc (V.agg [(V.int IntKind.i64 (Int.ofNat 0)), (V.sl Tok.nl (Sh.ag [Sh.s, Sh.s]) 0 [])])))] []) A17o_2)
def A17o : AC := (AC.seq (AC.reg [.clr [1, 2]] [(I.mk (some 1) none false (X.box (O.t 0))), (I.mk (some 2) none false (X.alloc (V.agg [(V.int IntKind.i64 (Int.ofNat 0)), (V.sl Tok.nl (Sh.ag [Sh.s, Sh.s]) 0 [])])))] []) A17o_1)
def an17o : List An := [{ id := 0, pre := [.clr [1, 2]], ep := [], lin := [], sp := [] }, { id := 1, pre := [.clr [3]], ep := [], lin := [], sp := [] }, { id := 3, pre := [.clr [9]], ep := [], lin := [], sp := [1002] }]
theorem c17o : cC Try.prog Try.f17.ntmps an17o (Try.f17.body.getD .skip) = some A17o := by kernel_rfl
structure H17o (D : Den) (σ : Sig) (F : Nat) : Prop where
  c50o : ∀ (x0 : (List (Int × Int))) r, w_toIntA2S_o F x0 = some r → D 1000000050 [Enc.enc x0] = some (encO .sh (r : NL (Int × Int)))
  g50o : σ 1000000050 = some (1, false)
abbrev R17o (r : (Int × (NL (Int × Int)))) : (Nat → V) → Prop := RR Try.prog [.cell 2 29] 1 false (.agg [(Enc.enc (r.1 : Int)), (encO .sh (r.2 : NL (Int × Int)))])
section
variable {D : Den} {σ : Sig} {F : Nat} {r : (Int × (NL (Int × Int)))}
def w_toGraph_o (F : Nat) (a_1 : (Int × (List (Int × Int)))) : Option (Int × (NL (Int × Int))) :=
  (w_toIntA2S_o F a_1.2).bind fun r_2 =>
  some (a_1.1, r_2)
theorem t17o (H : H17o D σ F) (a_1 : (Int × (List (Int × Int)))) (s : Nat → V) (hs : Facts [(0, (.agg [(.int .i64 a_1.1), (Enc.enc (a_1.2 : List (Int × Int)))]))] s) (h : w_toGraph_o F a_1 = some r) : Run D σ (R17o r) (.run A17o []) s := by
  unfold w_toGraph_o at h
  have h0 := hs
  refine .seq ?_
  refine run_reg ?_
  refine e_clr ?_
  refine e_end ?_
  refine g_box (.agg [(.int .i64 a_1.1), (Enc.enc (a_1.2 : List (Int × Int)))]) (rd_of (keep_clear (s := s) (pk := [1, 2]) h0 rfl (map_agg (maps_cons rfl (maps_cons (Enc.map_enc _ (a_1.2 : List (Int × Int))) maps_nil)))) rfl) (gone_clear (s := s) (pk := [1, 2]) (t := 1) rfl) rfl ?_
  refine g_alloc (gone_clear (s := s) (pk := [1, 2]) (t := 2) rfl) ?_
  refine g_end ?_
  refine e_end ?_
  refine renew [(1, (.ref (.bx 1) 0 [] (.agg [(.int .i64 a_1.1), (Enc.enc (a_1.2 : List (Int × Int)))]))), (2, (.ref (.bx 2) 0 [] (.agg [(.int .i64 0), (.sl .nl (Enc.shp (Int × Int)) 0 [])])))] ⟨rfl, rfl⟩ ?_
  rintro s ⟨h1, h2⟩
  refine .nsq ?_
  refine .seq ?_
  refine run_reg ?_
  refine e_clr ?_
  refine e_end ?_
  refine g_alloc (gone_clear (s := s) (pk := [3]) (t := 3) rfl) ?_
  refine g_end ?_
  refine e_end ?_
  refine renew [(1, (.ref (.bx 1) 0 [] (.agg [(.int .i64 a_1.1), (Enc.enc (a_1.2 : List (Int × Int)))]))), (2, (.ref (.bx 2) 0 [] (.agg [(.int .i64 0), (.sl .nl (Enc.shp (Int × Int)) 0 [])]))), (3, (.ref (.bx 3) 0 [] (.agg [(.int .i64 0), (.sl .nl (Enc.shp (Int × Int)) 0 [])])))] ⟨(keep_clear (s := s) (pk := [3]) h1 rfl (map_bx rfl (map_agg (maps_cons rfl (maps_cons (Enc.map_enc _ (a_1.2 : List (Int × Int))) maps_nil))))), (keep_clear (s := s) (pk := [3]) h2 rfl (map_bx rfl (map_agg (maps_cons rfl (maps_cons rfl maps_nil))))), rfl⟩ ?_
  rintro s ⟨h1, h2, h3⟩
  refine .nsq ?_
  refine .seq ?_
  refine run_reg ?_
  refine e_end ?_
  refine g_v1 (t := 1) (u := (.ref (.bx 1) 0 [] (.agg [(.int .i64 a_1.1), (Enc.enc (a_1.2 : List (Int × Int)))]))) (.ref (.bx 1) 0 [0] (.int .i64 a_1.1)) h1 rfl rfl ?_
  refine g_v1 (t := 4) (u := (.ref (.bx 1) 0 [0] (.int .i64 a_1.1))) (.int .i64 a_1.1) rfl rfl rfl ?_
  refine g_v1 (t := 3) (u := (.ref (.bx 3) 0 [] (.agg [(.int .i64 0), (.sl .nl (Enc.shp (Int × Int)) 0 [])]))) (.ref (.bx 3) 0 [0] (.int .i64 0)) h3 rfl rfl ?_
  refine g_store (.int .i64 a_1.1) (rd_of rfl rfl) (rd_of rfl rfl) (by refine ⟨by decide, by decide, rfl, rfl, rfl, ?_⟩; first | rfl | simp [V.toks, V.tokss, Enc.toks_enc]) ?_
  refine g_end ?_
  refine e_end ?_
  refine renew [(1, (.ref (.bx 1) 0 [] (.agg [(.int .i64 a_1.1), (Enc.enc (a_1.2 : List (Int × Int)))]))), (2, (.ref (.bx 2) 0 [] (.agg [(.int .i64 0), (.sl .nl (Enc.shp (Int × Int)) 0 [])]))), (3, (.ref (.bx 3) 0 [] (.agg [(.int .i64 a_1.1), (.sl .nl (Enc.shp (Int × Int)) 0 [])])))] ⟨(keep_mut h1 (mut_ref_ne rfl rfl (mut_agg (muts_cons rfl (muts_cons (Enc.mut_enc _ _ _ _ (a_1.2 : List (Int × Int))) rfl))))), (keep_mut h2 (mut_ref_ne rfl rfl (mut_agg (muts_cons rfl (muts_cons rfl rfl))))), (keep_mut h3 rfl)⟩ ?_
  rintro s ⟨h1, h2, h3⟩
  refine .nsq ?_
  refine .seq ?_
  refine run_reg ?_
  refine e_clr ?_
  refine e_end ?_
  refine g_v1 (t := 1) (u := (.ref (.bx 1) 0 [] (.agg [(.int .i64 a_1.1), (Enc.enc (a_1.2 : List (Int × Int)))]))) (.ref (.bx 1) 0 [1] (Enc.enc (a_1.2 : List (Int × Int)))) (keep_clear (s := s) (pk := [9]) h1 rfl (map_bx rfl (map_agg (maps_cons rfl (maps_cons (Enc.map_enc _ (a_1.2 : List (Int × Int))) maps_nil))))) rfl rfl ?_
  refine g_v1 (t := 7) (u := (.ref (.bx 1) 0 [1] (Enc.enc (a_1.2 : List (Int × Int))))) (Enc.enc (a_1.2 : List (Int × Int))) rfl rfl rfl ?_
  obtain ⟨r_2, E_r_2, h⟩ := bind_some h
  refine g_callO (m := 1) (al := false) (r := (encO .sh (r_2 : NL (Int × Int)))) (v := (encO (.at 9 []) (r_2 : NL (Int × Int)))) (kk := 1000000050) [Enc.enc (a_1.2 : (List (Int × Int)))] (ta_cons (v := (Enc.enc (a_1.2 : List (Int × Int)))) rfl rfl (Enc.erase_enc (a_1.2 : (List (Int × Int)))) ta_nil) (H.c50o _ _ E_r_2) H.g50o rfl toks_encS tag_encO ok_encP (gone_clear (s := s) (pk := [9]) (t := 9) rfl) ?_
  refine g_v1 (t := 3) (u := (.ref (.bx 3) 0 [] (.agg [(.int .i64 a_1.1), (.sl .nl (Enc.shp (Int × Int)) 0 [])]))) (.ref (.bx 3) 0 [1] (.sl .nl (Enc.shp (Int × Int)) 0 [])) (keep_clear (s := s) (pk := [9]) h3 rfl (map_bx rfl (map_agg (maps_cons rfl (maps_cons rfl maps_nil))))) rfl rfl ?_
  refine g_store (encO (.at 9 []) (r_2 : NL (Int × Int))) (rd_of rfl rfl) (rd_of rfl ok_encP) ⟨by decide, by decide, mem_encP, shp_encP, rfl, tok_encP rfl rfl⟩ ?_
  refine g_end ?_
  refine e_end ?_
  refine renew [(2, (.ref (.bx 2) 0 [] (.agg [(.int .i64 0), (.sl .nl (Enc.shp (Int × Int)) 0 [])]))), (3, (.ref (.bx 3) 0 [] (.agg [(.int .i64 a_1.1), (encO (.at 9 []) (r_2 : NL (Int × Int)))])))] ⟨(keep_mut (keep_clear (s := s) (pk := [9]) h2 rfl (map_bx rfl (map_agg (maps_cons rfl (maps_cons rfl maps_nil))))) (mut_ref_ne rfl rfl (mut_agg (muts_cons rfl (muts_cons rfl rfl))))), (keep_mut (keep_clear (s := s) (pk := [9]) h3 rfl (map_bx rfl (map_agg (maps_cons rfl (maps_cons rfl maps_nil))))) rfl)⟩ ?_
  rintro s ⟨h2, h3⟩
  refine .nsq ?_
  refine .seq ?_
  refine run_reg ?_
  refine e_end ?_
  refine g_v (.agg [(.int .i64 a_1.1), (encO (.at 9 []) (r_2 : NL (Int × Int)))]) (ev_loadN (c := (.agg [(.int .i64 a_1.1), (encO (.at 9 []) (r_2 : NL (Int × Int)))])) h3 (by simp [V.shape, V.shapes, shape_encP, Sh.beq, Sh.beqs])) ?_
  refine g_store (.agg [(.int .i64 a_1.1), (encO (.at 9 []) (r_2 : NL (Int × Int)))]) (rd_of h2 rfl) (rd_of rfl rfl) ⟨by decide, by decide, rfl, (by simp [V.shape, V.shapes, shape_encP, Sh.beq, Sh.beqs]), (by simp [V.shape, V.shapes, shape_encP, Sh.beq, Sh.beqs]), (by simp [V.toks, V.tokss, tok_memP])⟩ ?_
  refine g_end ?_
  refine e_end ?_
  refine renew [(2, (.ref (.bx 2) 0 [] (.agg [(.int .i64 a_1.1), (encO (.at 9 []) (r_2 : NL (Int × Int)))])))] (keep_mut h2 rfl) ?_
  rintro s h2
  refine .nsq ?_
  refine .ret ?_
  have hr := Option.some.inj h
  subst hr
  exact rrA (res_cell h2 (by simp only [V.shape, V.shapes, shape_encP]; kernel_rfl)) (fin_retO (finO_agg (finOs_cons finO_int (finOs_cons (finO_own (o := (r_2 : NL (Int × Int)))) finOs_nil))) rfl (mine_agg (mines_cons rfl (mines_cons (mine_own rfl) mines_nil))))
end
def e17o (F : Nat) : Ent := ⟨1000000017, da (fun (x : ((Int × (List (Int × Int))) × Unit)) => w_toGraph_o F x.1) (fun (r : (Int × (NL (Int × Int)))) => (.agg [(Enc.enc (r.1 : Int)), (encO .sh (r.2 : NL (Int × Int)))])), 1, false, selF []⟩
theorem p17o {F : Nat} {x0 : (Int × (List (Int × Int)))} {r : (Int × (NL (Int × Int)))} (h : w_toGraph_o F x0 = some r) : (e17o F).den [Enc.enc x0] = some (.agg [(Enc.enc (r.1 : Int)), (encO .sh (r.2 : NL (Int × Int)))]) := da_put (f := fun (x : ((Int × (List (Int × Int))) × Unit)) => w_toGraph_o F x.1) (t := fun (r : (Int × (NL (Int × Int)))) => (.agg [(Enc.enc (r.1 : Int)), (encO .sh (r.2 : NL (Int × Int)))])) (x0, ()) h
theorem o17o {D : Den} {σ : Sig} {F : Nat} (hF : Fits2 Try.prog D σ) (H : H17o D σ F) : (e17o F).Ok Try.prog := by
  refine ok_of (f := 17) (show unk 1000000017 = 17 from rfl) (fun args r h => ?_) ⟨Try.f17, Try.func17, rfl, rfl⟩
  obtain ⟨⟨x0, _⟩, y, rfl, hy, rfl⟩ := da_open h
  exact contract_run hF (by kernel_rfl) Try.func17 rfl c17o (show 1 ≤ Try.f17.ntmps by decide) (t17o H x0 _ rfl hy)
/- loop.example/g01109/laws.markIntA2S -/
def A55_2 : AC := (AC.cond (O.t 10) AC.skip (AC.exit 0))
def A55_6 : AC := (AC.cond (O.t 14) AC.skip (AC.exit 2))
def A55_8 : AC := (AC.reg [] [(I.mk (some 23) none false (X.v (A.mov (O.t 1)))), (I.mk (some 24) none false (X.v (A.bin BinOp.add (O.t 23) (O.k (V.int IntKind.i64 (Int.ofNat 1)))))), (I.mk (some 1) none false (X.v (A.mov (O.t 24))))] [])
def A55_9 : AC := (AC.reg [] [(I.mk (some 15) none false (X.v (A.mov (O.t 6)))), (I.mk (some 16) none false (X.v (A.bin BinOp.add (O.t 15) (O.k (V.int IntKind.i64 (Int.ofNat 1)))))), (I.mk (some 6) none false (X.v (A.mov (O.t 16))))] [])
def A55_7 : AC := (AC.seq (AC.block 3 (AC.seq (AC.reg [] [(I.mk (some 17) none false (X.v (A.mov (O.t 0)))), (I.mk (some 18) none false (X.v (A.mov (O.t 5)))), (I.mk (some 19) none false (X.v (A.mov (O.t 6)))), (I.mk (some 20) none false (X.v (A.mov (O.t 1)))), (I.mk (some 21) none false (X.v (A.idx (O.t 17) (O.t 18) 2))), (I.mk (some 22) none false (X.v (A.idxA (O.t 21) (O.t 19) 2 1))), (I.mk none none false (X.store Sh.s (O.t 22) (O.t 20)))] []) A55_8)) A55_9)
def A55_5 : AC := (AC.seq (AC.seq (AC.reg [] [(I.mk (some 13) none false (X.v (A.mov (O.t 6)))), (I.mk (some 14) none false (X.v (A.bin BinOp.lss (O.t 13) (O.k (V.int IntKind.i64 (Int.ofNat 2))))))] []) A55_6) A55_7)
def A55_4 : AC := (AC.block 2 (AC.loop A55_5))
def A55_10 : AC := (AC.reg [] [(I.mk (some 11) none false (X.v (A.mov (O.t 5)))), (I.mk (some 12) none false (X.v (A.bin BinOp.add (O.t 11) (O.k (V.int IntKind.i64 (Int.ofNat 1)))))), (I.mk (some 5) none false (X.v (A.mov (O.t 12))))] [])
def A55_3 : AC := (AC.seq (AC.block 1 (AC.seq (AC.reg [] [(I.mk (some 6) none false (X.v (A.mov (O.k (V.int IntKind.i64 (Int.ofNat 0))))))] []) A55_4)) A55_10)
def A55_1 : AC := (AC.seq (AC.seq (AC.reg [] [(I.mk (some 7) none false (X.v (A.mov (O.t 5)))), (I.mk (some 8) none false (X.v (A.mov (O.t 0)))), (I.mk (some 9) none false (X.v (A.len (O.t 8)))), (I.mk (some 10) none false (X.v (A.bin BinOp.lss (O.t 7) (O.t 9))))] []) A55_2) A55_3)
def A55_11 : AC := (AC.seq (AC.reg [] [(I.mk (some 25) none false (X.v (A.mov (O.t 1)))), (I.mk (some 4) none false (X.v (A.mov (O.t 25))))] []) AC.ret)
def A55_13 : AC := (AC.block 0 (AC.loop A55_1))
def A55_12 : AC := (AC.seq (AC.seq (AC.reg [] [(I.mk (some 5) none false (X.v (A.mov (O.k (V.int IntKind.i64 (Int.ofNat 0))))))] []) A55_13) A55_11)
def A55 : AC := (AC.seq (AC.reg [] [(I.mk (some 4) none false (X.v (A.mov (O.k (V.int IntKind.i64 (Int.ofNat 0))))))] []) A55_12)
def an55 : List An := []
theorem c55 : cC Try.prog Try.f55.ntmps an55 (Try.f55.body.getD .skip) = some A55 := by kernel_rfl
structure H55 (D : Den) (σ : Sig) (F : Nat) : Prop where
  mk ::
abbrev R55 (r : (Int × NL (Int × Int))) : (Nat → V) → Prop := RM Try.prog [.tmp 4] (Enc.enc (r.1 : Int)) (encO (.at pinR []) (r.2 : NL (Int × Int)))
section
variable {D : Den} {σ : Sig} {F : Nat} {r : (Int × NL (Int × Int))}
def w_markIntA2S_l1 (F : Nat) (i_13 : Int) (c1 : (NL (Int × Int)) → Int → Int → Option (Int × NL (Int × Int))) : Nat → (NL (Int × Int)) → Int → Int → Option (Int × NL (Int × Int))
  | 0, _, _, _ => none
  | k + 1, a_23, k_24, j_25 =>
    bif decide (j_25 < 2) then
      (idx a_23.list i_13).bind fun e_28 =>
      (idx [e_28.1, e_28.2] j_25).bind fun e_29 =>
      (w_markIntA2S_l1 F i_13 c1 k) (NL.set2 a_23 i_13.toNat j_25 k_24) (w64 (k_24 + 1)) (w64 (j_25 + 1))
    else
      c1 a_23 k_24 (w64 (i_13 + 1))
theorem t_f55_l1 (H : H55 D σ F) (i_13 : Int) (c1 : (NL (Int × Int)) → Int → Int → Option (Int × NL (Int × Int))) (Hc1 : ∀ (a_11 : (NL (Int × Int))) (k_12 : Int) (i_13 : Int) (s : Nat → V), Facts [(0, (encO (.at pinR []) (a_11 : NL (Int × Int)))), (1, (.int .i64 k_12)), (4, (.int .i64 0)), (5, (.int .i64 i_13))] s → c1 a_11 k_12 i_13 = some r → Run D σ (R55 r) (.run A55_1 [.lp A55_1, .bk 0, .sq A55_11]) s) : ∀ (k : Nat) (a_23 : (NL (Int × Int))) (k_24 : Int) (j_25 : Int) (s : Nat → V), Facts [(0, (encO (.at pinR []) (a_23 : NL (Int × Int)))), (1, (.int .i64 k_24)), (4, (.int .i64 0)), (5, (.int .i64 i_13)), (6, (.int .i64 j_25))] s → w_markIntA2S_l1 F i_13 c1 k a_23 k_24 j_25 = some r → Run D σ (R55 r) (.run A55_5 [.lp A55_5, .bk 2, .bk 1, .sq A55_10, .lp A55_1, .bk 0, .sq A55_11]) s := by
  intro k
  induction k with
  | zero => intro a_23 k_24 j_25 s _ h; exact nomatch (h : (none : Option _) = some r)
  | succ k ih =>
    intro a_23 k_24 j_25 s hs h
    rw [w_markIntA2S_l1] at h
    obtain ⟨h0, h1, h4, h5, h6⟩ := hs
    refine .seq ?_
    refine .seq ?_
    refine run_reg ?_
    refine e_end ?_
    refine g_v1 (t := 6) (u := (.int .i64 j_25)) (.int .i64 j_25) h6 rfl rfl ?_
    refine g_v1 (t := 13) (u := (.int .i64 j_25)) (.bool (decide (j_25 < 2))) rfl rfl rfl ?_
    refine g_end ?_
    refine e_end ?_
    refine renew [(0, (encO (.at pinR []) (a_23 : NL (Int × Int)))), (1, (.int .i64 k_24)), (4, (.int .i64 0)), (5, (.int .i64 i_13)), (6, (.int .i64 j_25)), (14, (.bool (decide (j_25 < 2))))] ⟨h0, h1, h4, h5, h6, rfl⟩ ?_
    rintro s ⟨h0, h1, h4, h5, h6, h14⟩
    refine .nsq ?_
    refine run_cond (t := decide (j_25 < 2)) h14 h (fun h => ?_) (fun h => ?_)
    · refine .skip ?_
      refine .nsq ?_
      refine .seq ?_
      refine .block ?_
      refine .seq ?_
      refine run_reg ?_
      refine e_end ?_
      refine g_v (encO (.at pinR []) (a_23 : NL (Int × Int))) (ev_mov h0 ok_encO) ?_
      refine g_v1 (t := 5) (u := (.int .i64 i_13)) (.int .i64 i_13) h5 rfl rfl ?_
      refine g_v1 (t := 6) (u := (.int .i64 j_25)) (.int .i64 j_25) h6 rfl rfl ?_
      refine g_v1 (t := 1) (u := (.int .i64 k_24)) (.int .i64 k_24) h1 rfl rfl ?_
      obtain ⟨e_28, E_e_28, h⟩ := bind_some h
      refine g_v (.ref (.at pinR []) i_13.toNat [] (.agg [(.int .i64 e_28.1), (.int .i64 e_28.2)])) (ev_idxO (o := a_23) rfl rfl E_e_28 rfl) ?_
      obtain ⟨e_29, E_e_29, h⟩ := bind_some h
      refine g_v (.ref (.at pinR []) i_13.toNat [j_25.toNat] (.int .i64 e_29)) (ev_idxA (xs := [e_28.1, e_28.2]) (a := e_29) (n := j_25) (q := []) rfl rfl E_e_29 rfl rfl rfl) ?_
      refine g_store (.int .i64 k_24) (rd_of rfl rfl) (rd_of rfl rfl) (by refine ⟨by decide, by decide, rfl, rfl, rfl, ?_⟩; first | rfl | simp [V.toks, V.tokss, Enc.toks_enc]) ?_
      refine g_end ?_
      refine e_end ?_
      refine renew [(0, (encO (.at pinR []) ((NL.set2 a_23 i_13.toNat j_25 k_24) : NL (Int × Int)))), (1, (.int .i64 k_24)), (4, (.int .i64 0)), (5, (.int .i64 i_13)), (6, (.int .i64 j_25))] ⟨(keep_mut h0 (mut_own2 (o := a_23) E_e_29 rfl)), (keep_mut h1 rfl), (keep_mut h4 rfl), (keep_mut h5 rfl), (keep_mut h6 rfl)⟩ ?_
      rintro s ⟨h0, h1, h4, h5, h6⟩
      refine .nsq ?_
      refine run_reg ?_
      refine e_end ?_
      refine g_v1 (t := 1) (u := (.int .i64 k_24)) (.int .i64 k_24) h1 rfl rfl ?_
      refine g_v1 (t := 23) (u := (.int .i64 k_24)) (.int .i64 (w64 (k_24 + 1))) rfl rfl rfl ?_
      refine g_v1 (t := 24) (u := (.int .i64 (w64 (k_24 + 1)))) (.int .i64 (w64 (k_24 + 1))) rfl rfl rfl ?_
      refine g_end ?_
      refine e_end ?_
      refine renew [(0, (encO (.at pinR []) ((NL.set2 a_23 i_13.toNat j_25 k_24) : NL (Int × Int)))), (1, (.int .i64 (w64 (k_24 + 1)))), (4, (.int .i64 0)), (5, (.int .i64 i_13)), (6, (.int .i64 j_25))] ⟨h0, rfl, h4, h5, h6⟩ ?_
      rintro s ⟨h0, h1, h4, h5, h6⟩
      refine .nbk ?_
      refine .nsq ?_
      refine run_reg ?_
      refine e_end ?_
      refine g_v1 (t := 6) (u := (.int .i64 j_25)) (.int .i64 j_25) h6 rfl rfl ?_
      refine g_v1 (t := 15) (u := (.int .i64 j_25)) (.int .i64 (w64 (j_25 + 1))) rfl rfl rfl ?_
      refine g_v1 (t := 16) (u := (.int .i64 (w64 (j_25 + 1)))) (.int .i64 (w64 (j_25 + 1))) rfl rfl rfl ?_
      refine g_end ?_
      refine e_end ?_
      refine renew [(0, (encO (.at pinR []) ((NL.set2 a_23 i_13.toNat j_25 k_24) : NL (Int × Int)))), (1, (.int .i64 (w64 (k_24 + 1)))), (4, (.int .i64 0)), (5, (.int .i64 i_13)), (6, (.int .i64 (w64 (j_25 + 1))))] ⟨h0, h1, h4, h5, rfl⟩ ?_
      rintro s ⟨h0, h1, h4, h5, h6⟩
      refine .nlp ?_
      exact ih (NL.set2 a_23 i_13.toNat j_25 k_24) (w64 (k_24 + 1)) (w64 (j_25 + 1)) _ ⟨h0, h1, h4, h5, h6⟩ h
    · refine .exit ?_
      refine .esq ?_
      refine .elp ?_
      refine .ebk ?_
      refine .nbk ?_
      refine .nsq ?_
      refine run_reg ?_
      refine e_end ?_
      refine g_v1 (t := 5) (u := (.int .i64 i_13)) (.int .i64 i_13) h5 rfl rfl ?_
      refine g_v1 (t := 11) (u := (.int .i64 i_13)) (.int .i64 (w64 (i_13 + 1))) rfl rfl rfl ?_
      refine g_v1 (t := 12) (u := (.int .i64 (w64 (i_13 + 1)))) (.int .i64 (w64 (i_13 + 1))) rfl rfl rfl ?_
      refine g_end ?_
      refine e_end ?_
      refine renew [(0, (encO (.at pinR []) (a_23 : NL (Int × Int)))), (1, (.int .i64 k_24)), (4, (.int .i64 0)), (5, (.int .i64 (w64 (i_13 + 1))))] ⟨h0, h1, h4, rfl⟩ ?_
      rintro s ⟨h0, h1, h4, h5⟩
      refine .nlp ?_
      exact Hc1 a_23 k_24 (w64 (i_13 + 1)) _ ⟨h0, h1, h4, h5⟩ h
def w_markIntA2S_l2 (F : Nat)   : Nat → (NL (Int × Int)) → Int → Int → Option (Int × NL (Int × Int))
  | 0, _, _, _ => none
  | k + 1, a_11, k_12, i_13 =>
    bif decide (i_13 < (a_11.list.length : Int)) then
      w_markIntA2S_l1 F i_13 (w_markIntA2S_l2 F k) F a_11 k_12 0
    else
      some (k_12, a_11)
theorem t_f55_l2 (H : H55 D σ F)   : ∀ (k : Nat) (a_11 : (NL (Int × Int))) (k_12 : Int) (i_13 : Int) (s : Nat → V), Facts [(0, (encO (.at pinR []) (a_11 : NL (Int × Int)))), (1, (.int .i64 k_12)), (4, (.int .i64 0)), (5, (.int .i64 i_13))] s → w_markIntA2S_l2 F k a_11 k_12 i_13 = some r → Run D σ (R55 r) (.run A55_1 [.lp A55_1, .bk 0, .sq A55_11]) s := by
  intro k
  induction k with
  | zero => intro a_11 k_12 i_13 s _ h; exact nomatch (h : (none : Option _) = some r)
  | succ k ih =>
    intro a_11 k_12 i_13 s hs h
    rw [w_markIntA2S_l2] at h
    obtain ⟨h0, h1, h4, h5⟩ := hs
    refine .seq ?_
    refine .seq ?_
    refine run_reg ?_
    refine e_end ?_
    refine g_v1 (t := 5) (u := (.int .i64 i_13)) (.int .i64 i_13) h5 rfl rfl ?_
    refine g_v (encO (.at pinR []) (a_11 : NL (Int × Int))) (ev_mov h0 ok_encO) ?_
    refine g_v (.int .i64 (a_11.list.length : Int)) (ev_lenO (o := a_11) rfl) ?_
    refine g_v2 (t1 := 7) (t2 := 9) (u1 := (.int .i64 i_13)) (u2 := (.int .i64 (a_11.list.length : Int))) (.bool (decide (i_13 < (a_11.list.length : Int)))) rfl rfl rfl rfl ?_
    refine g_end ?_
    refine e_end ?_
    refine renew [(0, (encO (.at pinR []) (a_11 : NL (Int × Int)))), (1, (.int .i64 k_12)), (4, (.int .i64 0)), (5, (.int .i64 i_13)), (10, (.bool (decide (i_13 < (a_11.list.length : Int)))))] ⟨h0, h1, h4, h5, rfl⟩ ?_
    rintro s ⟨h0, h1, h4, h5, h10⟩
    refine .nsq ?_
    refine run_cond (t := decide (i_13 < (a_11.list.length : Int))) h10 h (fun h => ?_) (fun h => ?_)
    · refine .skip ?_
      refine .nsq ?_
      refine .seq ?_
      refine .block ?_
      refine .seq ?_
      refine run_reg ?_
      refine e_end ?_
      refine g_v0 (.int .i64 0) rfl rfl ?_
      refine g_end ?_
      refine e_end ?_
      refine renew [(0, (encO (.at pinR []) (a_11 : NL (Int × Int)))), (1, (.int .i64 k_12)), (4, (.int .i64 0)), (5, (.int .i64 i_13)), (6, (.int .i64 0))] ⟨h0, h1, h4, h5, rfl⟩ ?_
      rintro s ⟨h0, h1, h4, h5, h6⟩
      refine .nsq ?_
      refine .block ?_
      refine .loop ?_
      exact t_f55_l1 H i_13 (w_markIntA2S_l2 F k) ih F a_11 k_12 0 _ ⟨h0, h1, h4, h5, h6⟩ h
    · refine .exit ?_
      refine .esq ?_
      refine .elp ?_
      refine .ebk ?_
      refine .nsq ?_
      refine .seq ?_
      refine run_reg ?_
      refine e_end ?_
      refine g_v1 (t := 1) (u := (.int .i64 k_12)) (.int .i64 k_12) h1 rfl rfl ?_
      refine g_v1 (t := 25) (u := (.int .i64 k_12)) (.int .i64 k_12) rfl rfl rfl ?_
      refine g_end ?_
      refine e_end ?_
      refine renew [(0, (encO (.at pinR []) (a_11 : NL (Int × Int)))), (4, (.int .i64 k_12))] ⟨h0, rfl⟩ ?_
      rintro s ⟨h0, h4⟩
      refine .nsq ?_
      refine .ret ?_
      have hr := Option.some.inj h
      subst hr
      exact rmA (res_tmp h4) h0
def w_markIntA2S (F : Nat) (a_1 : (On (Int × Int))) (k_2 : Int) : Option (Int × NL (Int × Int)) :=
  w_markIntA2S_l2 F F a_1.v k_2 0
theorem t55 (H : H55 D σ F) (a_1 : (On (Int × Int))) (k_2 : Int) (s : Nat → V) (hs : Facts [(0, (encO (.at pinR []) (a_1.v : NL (Int × Int)))), (1, (.int .i64 k_2))] s) (h : w_markIntA2S F a_1 k_2 = some r) : Run D σ (R55 r) (.run A55 []) s := by
  unfold w_markIntA2S at h
  obtain ⟨h0, h1⟩ := hs
  refine .seq ?_
  refine run_reg ?_
  refine e_end ?_
  refine g_v0 (.int .i64 0) rfl rfl ?_
  refine g_end ?_
  refine e_end ?_
  refine renew [(0, (encO (.at pinR []) (a_1.v : NL (Int × Int)))), (1, (.int .i64 k_2)), (4, (.int .i64 0))] ⟨h0, h1, rfl⟩ ?_
  rintro s ⟨h0, h1, h4⟩
  refine .nsq ?_
  refine .seq ?_
  refine .seq ?_
  refine run_reg ?_
  refine e_end ?_
  refine g_v0 (.int .i64 0) rfl rfl ?_
  refine g_end ?_
  refine e_end ?_
  refine renew [(0, (encO (.at pinR []) (a_1.v : NL (Int × Int)))), (1, (.int .i64 k_2)), (4, (.int .i64 0)), (5, (.int .i64 0))] ⟨h0, h1, h4, rfl⟩ ?_
  rintro s ⟨h0, h1, h4, h5⟩
  refine .nsq ?_
  refine .block ?_
  refine .loop ?_
  exact t_f55_l2 H F a_1.v k_2 0 _ ⟨h0, h1, h4, h5⟩ h
end
def e55 (F : Nat) : Ent := ⟨55, da (fun (x : ((On (Int × Int)) × Int × Unit)) => w_markIntA2S F x.1 x.2.1) (fun (r : (Int × NL (Int × Int))) => (.tup [Enc.enc (r.1 : Int), encO (.at pinR []) (r.2 : NL (Int × Int))])), pinR, false, selF []⟩
theorem p55 {F : Nat} {x0 : (On (Int × Int))} {x1 : Int} {r : (Int × NL (Int × Int))} (h : w_markIntA2S F x0 x1 = some r) : (e55 F).den [Arg.arg x0, Enc.enc x1] = some (.tup [Enc.enc (r.1 : Int), encO (.at pinR []) (r.2 : NL (Int × Int))]) := da_put (f := fun (x : ((On (Int × Int)) × Int × Unit)) => w_markIntA2S F x.1 x.2.1) (t := fun (r : (Int × NL (Int × Int))) => (.tup [Enc.enc (r.1 : Int), encO (.at pinR []) (r.2 : NL (Int × Int))])) (x0, x1, ()) h
theorem o55 {D : Den} {σ : Sig} {F : Nat} (hF : Fits2 Try.prog D σ) (H : H55 D σ F) : (e55 F).Ok Try.prog := by
  refine ok_of (f := 55) (show unk 55 = 55 from rfl) (fun args r h => ?_) ⟨Try.f55, Try.func55, rfl, rfl⟩
  obtain ⟨⟨x0, x1, _⟩, y, rfl, hy, rfl⟩ := da_open h
  exact contractM_run hF (by kernel_rfl) Try.func55 rfl c55 (all_ok2 ok_encP rfl) (show 2 ≤ Try.f55.ntmps by decide) (by decide) (t55 H x0 x1 _ ⟨rfl, rfl⟩ hy)
/- loop.example/g01109/laws.markGraph -/
def A21_2 : AC := (AC.seq (AC.reg [] [(I.mk (some 9) none false (X.v (A.mov (O.t 1)))), (I.mk (some 4) none false (X.v (A.mov (O.t 9))))] []) AC.ret)
def A21_1 : AC := (AC.seq (AC.reg [] [(I.mk (some 5) none false (X.v (A.fld (O.t 2) 1 1))), (I.mk (some 6) none false (X.v (A.load Sh.p (O.t 5)))), (I.mk (some 7) none false (X.v (A.mov (O.t 1)))), (I.mk (some 8) none false (X.mark (O.k (V.fn 55 [] [])) [(O.t 6), (O.t 7)])), (I.mk (some 1) none false (X.v (A.mov (O.t 8))))] []) A21_2)
def A21 : AC := (AC.seq (AC.reg [.clr [2]] [(I.mk (some 2) none false (X.box (O.t 0))), (I.mk (some 4) none false (X.v (A.mov (O.k (V.int IntKind.i64 (Int.ofNat 0))))))] []) A21_1)
def an21 : List An := [{ id := 0, pre := [.clr [2]], ep := [], lin := [], sp := [] }, { id := 1, pre := [], ep := [], lin := [], sp := [3] }]
theorem c21 : cC Try.prog Try.f21.ntmps an21 (Try.f21.body.getD .skip) = some A21 := by kernel_rfl
structure H21 (D : Den) (σ : Sig) (F : Nat) : Prop where
  c55 : ∀ (x0 : (On (Int × Int))) (x1 : Int) r, w_markIntA2S F x0 x1 = some r → D 55 [Arg.arg x0, Enc.enc x1] = some (.tup [Enc.enc (r.1 : Int), encO (.at pinR []) (r.2 : NL (Int × Int))])
  g55 : σ 55 = some (pinR, false)
abbrev R21 (r : Int) : (Nat → V) → Prop := RM Try.prog [.tmp 4] (Enc.enc (r : Int)) .dead
section
variable {D : Den} {σ : Sig} {F : Nat} {r : Int}
def w_markGraph (F : Nat) (a_1 : (Og (Int × Int))) (k_2 : Int) : Option Int :=
  (w_markIntA2S F (On.mk a_1.v : (On (Int × Int))) k_2).bind fun r_3 =>
  some r_3.1
theorem t21 (H : H21 D σ F) (a_1 : (Og (Int × Int))) (k_2 : Int) (s : Nat → V) (hs : Facts [(0, (.agg [(.int .i64 a_1.a), (encO (.at pinR [1]) (a_1.v : NL (Int × Int)))])), (1, (.int .i64 k_2))] s) (h : w_markGraph F a_1 k_2 = some r) : Run D σ (R21 r) (.run A21 []) s := by
  unfold w_markGraph at h
  obtain ⟨h0, h1⟩ := hs
  refine .seq ?_
  refine run_reg ?_
  refine e_clr ?_
  refine e_end ?_
  refine g_box (.agg [(.int .i64 a_1.a), (encO (.at pinR [1]) (a_1.v : NL (Int × Int)))]) (rd_of (keep_clear (s := s) (pk := [2]) h0 rfl (map_agg (maps_cons rfl (maps_cons (map_encO (r := pinR) (p := [1]) rfl rfl) maps_nil)))) rfl) (gone_clear (s := s) (pk := [2]) (t := 2) rfl) rfl ?_
  refine g_v0 (.int .i64 0) rfl rfl ?_
  refine g_end ?_
  refine e_end ?_
  refine renew [(1, (.int .i64 k_2)), (2, (.ref (.bx 2) 0 [] (.agg [(.int .i64 a_1.a), (encO (.at pinR [1]) (a_1.v : NL (Int × Int)))]))), (4, (.int .i64 0))] ⟨(keep_clear (s := s) (pk := [2]) h1 rfl rfl), rfl, rfl⟩ ?_
  rintro s ⟨h1, h2, h4⟩
  refine .nsq ?_
  refine .seq ?_
  refine run_reg ?_
  refine e_end ?_
  refine g_v1 (t := 2) (u := (.ref (.bx 2) 0 [] (.agg [(.int .i64 a_1.a), (encO (.at pinR [1]) (a_1.v : NL (Int × Int)))]))) (.ref (.bx 2) 0 [1] (encO (.at pinR [1]) (a_1.v : NL (Int × Int)))) h2 rfl rfl ?_
  refine g_v (encO (.at pinR [1]) (a_1.v : NL (Int × Int))) (ev_loadN rfl beq_encO) ?_
  refine g_v1 (t := 1) (u := (.int .i64 k_2)) (.int .i64 k_2) h1 rfl rfl ?_
  obtain ⟨r_3, E_r_3, h⟩ := bind_some h
  refine g_mark (v := (encO (.at pinR [1]) (a_1.v : NL (Int × Int)))) rfl (canon_own (o := (a_1.v : NL (Int × Int))) rfl) (rdAll_cons (v := (.int .i64 k_2)) rfl rfl rdAll_nil) (H.c55 _ _ _ E_r_3) H.g55 rfl rfl (fun s_2 hm_2 => ?_)
  refine g_v1 (t := 8) (u := (.int .i64 r_3.1)) (.int .i64 r_3.1) rfl rfl rfl ?_
  refine g_end ?_
  refine e_end ?_
  refine renew [(1, (.int .i64 r_3.1)), (4, (.int .i64 0))] ⟨rfl, (show s_2 4 = (.int .i64 0) from hm_2 4 (.int .i64 0) (.int .i64 0) h4 (rem_map rfl rfl))⟩ ?_
  rintro s ⟨h1, h4⟩
  refine .nsq ?_
  refine .seq ?_
  refine run_reg ?_
  refine e_end ?_
  refine g_v1 (t := 1) (u := (.int .i64 r_3.1)) (.int .i64 r_3.1) h1 rfl rfl ?_
  refine g_v1 (t := 9) (u := (.int .i64 r_3.1)) (.int .i64 r_3.1) rfl rfl rfl ?_
  refine g_end ?_
  refine e_end ?_
  refine renew [(4, (.int .i64 r_3.1))] rfl ?_
  rintro s h4
  refine .nsq ?_
  refine .ret ?_
  have hr := Option.some.inj h
  subst hr
  exact rmD (res_tmp h4)
end
def e21 (F : Nat) : Ent := ⟨21, da (fun (x : ((Og (Int × Int)) × Int × Unit)) => w_markGraph F x.1 x.2.1) (fun (r : Int) => (.tup [Enc.enc (r : Int), .dead])), pinR, false, selF []⟩
theorem p21 {F : Nat} {x0 : (Og (Int × Int))} {x1 : Int} {r : Int} (h : w_markGraph F x0 x1 = some r) : (e21 F).den [Arg.arg x0, Enc.enc x1] = some (.tup [Enc.enc (r : Int), .dead]) := da_put (f := fun (x : ((Og (Int × Int)) × Int × Unit)) => w_markGraph F x.1 x.2.1) (t := fun (r : Int) => (.tup [Enc.enc (r : Int), .dead])) (x0, x1, ()) h
theorem o21 {D : Den} {σ : Sig} {F : Nat} (hF : Fits2 Try.prog D σ) (H : H21 D σ F) : (e21 F).Ok Try.prog := by
  refine ok_of (f := 21) (show unk 21 = 21 from rfl) (fun args r h => ?_) ⟨Try.f21, Try.func21, rfl, rfl⟩
  obtain ⟨⟨x0, x1, _⟩, y, rfl, hy, rfl⟩ := da_open h
  exact contractM_run hF (by kernel_rfl) Try.func21 rfl c21 (all_ok2 rfl rfl) (show 2 ≤ Try.f21.ntmps by decide) (by decide) (t21 H x0 x1 _ ⟨rfl, rfl⟩ hy)
/- loop.example/g01109/laws.markIntS -/
def A22_2 : AC := (AC.cond (O.t 9) AC.skip (AC.exit 0))
def A22_4 : AC := (AC.reg [] [(I.mk (some 16) none false (X.v (A.mov (O.t 1)))), (I.mk (some 17) none false (X.v (A.bin BinOp.add (O.t 16) (O.k (V.int IntKind.i64 (Int.ofNat 1)))))), (I.mk (some 1) none false (X.v (A.mov (O.t 17))))] [])
def A22_5 : AC := (AC.reg [] [(I.mk (some 10) none false (X.v (A.mov (O.t 5)))), (I.mk (some 11) none false (X.v (A.bin BinOp.add (O.t 10) (O.k (V.int IntKind.i64 (Int.ofNat 1)))))), (I.mk (some 5) none false (X.v (A.mov (O.t 11))))] [])
def A22_3 : AC := (AC.seq (AC.block 1 (AC.seq (AC.reg [] [(I.mk (some 12) none false (X.v (A.mov (O.t 0)))), (I.mk (some 13) none false (X.v (A.mov (O.t 5)))), (I.mk (some 14) none false (X.v (A.mov (O.t 1)))), (I.mk (some 15) none false (X.v (A.idx (O.t 12) (O.t 13) 1))), (I.mk none none false (X.store Sh.s (O.t 15) (O.t 14)))] []) A22_4)) A22_5)
def A22_1 : AC := (AC.seq (AC.seq (AC.reg [] [(I.mk (some 6) none false (X.v (A.mov (O.t 5)))), (I.mk (some 7) none false (X.v (A.mov (O.t 0)))), (I.mk (some 8) none false (X.v (A.len (O.t 7)))), (I.mk (some 9) none false (X.v (A.bin BinOp.lss (O.t 6) (O.t 8))))] []) A22_2) A22_3)
def A22_6 : AC := (AC.seq (AC.reg [] [(I.mk (some 18) none false (X.v (A.mov (O.t 1)))), (I.mk (some 4) none false (X.v (A.mov (O.t 18))))] []) AC.ret)
def A22_8 : AC := (AC.block 0 (AC.loop A22_1))
def A22_7 : AC := (AC.seq (AC.seq (AC.reg [] [(I.mk (some 5) none false (X.v (A.mov (O.k (V.int IntKind.i64 (Int.ofNat 0))))))] []) A22_8) A22_6)
def A22 : AC := (AC.seq (AC.reg [] [(I.mk (some 4) none false (X.v (A.mov (O.k (V.int IntKind.i64 (Int.ofNat 0))))))] []) A22_7)
def an22 : List An := []
theorem c22 : cC Try.prog Try.f22.ntmps an22 (Try.f22.body.getD .skip) = some A22 := by kernel_rfl
structure H22 (D : Den) (σ : Sig) (F : Nat) : Prop where
  mk ::
abbrev R22 (r : (Int × NL Int)) : (Nat → V) → Prop := RM Try.prog [.tmp 4] (Enc.enc (r.1 : Int)) (encO (.at pinR []) (r.2 : NL Int))
section
variable {D : Den} {σ : Sig} {F : Nat} {r : (Int × NL Int)}
def w_markIntS_l1 (F : Nat)   : Nat → (NL Int) → Int → Int → Option (Int × NL Int)
  | 0, _, _, _ => none
  | k + 1, a_4, k_5, i_6 =>
    bif decide (i_6 < (a_4.list.length : Int)) then
      (idx a_4.list i_6).bind fun e_8 =>
      (w_markIntS_l1 F k) (NL.set a_4 i_6.toNat k_5) (w64 (k_5 + 1)) (w64 (i_6 + 1))
    else
      some (k_5, a_4)
theorem t_f22_l1 (H : H22 D σ F)   : ∀ (k : Nat) (a_4 : (NL Int)) (k_5 : Int) (i_6 : Int) (s : Nat → V), Facts [(0, (encO (.at pinR []) (a_4 : NL Int))), (1, (.int .i64 k_5)), (4, (.int .i64 0)), (5, (.int .i64 i_6))] s → w_markIntS_l1 F k a_4 k_5 i_6 = some r → Run D σ (R22 r) (.run A22_1 [.lp A22_1, .bk 0, .sq A22_6]) s := by
  intro k
  induction k with
  | zero => intro a_4 k_5 i_6 s _ h; exact nomatch (h : (none : Option _) = some r)
  | succ k ih =>
    intro a_4 k_5 i_6 s hs h
    rw [w_markIntS_l1] at h
    obtain ⟨h0, h1, h4, h5⟩ := hs
    refine .seq ?_
    refine .seq ?_
    refine run_reg ?_
    refine e_end ?_
    refine g_v1 (t := 5) (u := (.int .i64 i_6)) (.int .i64 i_6) h5 rfl rfl ?_
    refine g_v (encO (.at pinR []) (a_4 : NL Int)) (ev_mov h0 ok_encO) ?_
    refine g_v (.int .i64 (a_4.list.length : Int)) (ev_lenO (o := a_4) rfl) ?_
    refine g_v2 (t1 := 6) (t2 := 8) (u1 := (.int .i64 i_6)) (u2 := (.int .i64 (a_4.list.length : Int))) (.bool (decide (i_6 < (a_4.list.length : Int)))) rfl rfl rfl rfl ?_
    refine g_end ?_
    refine e_end ?_
    refine renew [(0, (encO (.at pinR []) (a_4 : NL Int))), (1, (.int .i64 k_5)), (4, (.int .i64 0)), (5, (.int .i64 i_6)), (9, (.bool (decide (i_6 < (a_4.list.length : Int)))))] ⟨h0, h1, h4, h5, rfl⟩ ?_
    rintro s ⟨h0, h1, h4, h5, h9⟩
    refine .nsq ?_
    refine run_cond (t := decide (i_6 < (a_4.list.length : Int))) h9 h (fun h => ?_) (fun h => ?_)
    · refine .skip ?_
      refine .nsq ?_
      refine .seq ?_
      refine .block ?_
      refine .seq ?_
      refine run_reg ?_
      refine e_end ?_
      refine g_v (encO (.at pinR []) (a_4 : NL Int)) (ev_mov h0 ok_encO) ?_
      refine g_v1 (t := 5) (u := (.int .i64 i_6)) (.int .i64 i_6) h5 rfl rfl ?_
      refine g_v1 (t := 1) (u := (.int .i64 k_5)) (.int .i64 k_5) h1 rfl rfl ?_
      obtain ⟨e_8, E_e_8, h⟩ := bind_some h
      refine g_v (.ref (.at pinR []) i_6.toNat [] (.int .i64 e_8)) (ev_idxO (o := a_4) rfl rfl E_e_8 rfl) ?_
      refine g_store (.int .i64 k_5) (rd_of rfl rfl) (rd_of rfl rfl) (by refine ⟨by decide, by decide, rfl, rfl, rfl, ?_⟩; first | rfl | simp [V.toks, V.tokss, Enc.toks_enc]) ?_
      refine g_end ?_
      refine e_end ?_
      refine renew [(0, (encO (.at pinR []) ((NL.set a_4 i_6.toNat k_5) : NL Int))), (1, (.int .i64 k_5)), (4, (.int .i64 0)), (5, (.int .i64 i_6))] ⟨(keep_mut h0 (mut_ownN (α := Int) (u := k_5) (i := i_6.toNat) (o := a_4))), (keep_mut h1 rfl), (keep_mut h4 rfl), (keep_mut h5 rfl)⟩ ?_
      rintro s ⟨h0, h1, h4, h5⟩
      refine .nsq ?_
      refine run_reg ?_
      refine e_end ?_
      refine g_v1 (t := 1) (u := (.int .i64 k_5)) (.int .i64 k_5) h1 rfl rfl ?_
      refine g_v1 (t := 16) (u := (.int .i64 k_5)) (.int .i64 (w64 (k_5 + 1))) rfl rfl rfl ?_
      refine g_v1 (t := 17) (u := (.int .i64 (w64 (k_5 + 1)))) (.int .i64 (w64 (k_5 + 1))) rfl rfl rfl ?_
      refine g_end ?_
      refine e_end ?_
      refine renew [(0, (encO (.at pinR []) ((NL.set a_4 i_6.toNat k_5) : NL Int))), (1, (.int .i64 (w64 (k_5 + 1)))), (4, (.int .i64 0)), (5, (.int .i64 i_6))] ⟨h0, rfl, h4, h5⟩ ?_
      rintro s ⟨h0, h1, h4, h5⟩
      refine .nbk ?_
      refine .nsq ?_
      refine run_reg ?_
      refine e_end ?_
      refine g_v1 (t := 5) (u := (.int .i64 i_6)) (.int .i64 i_6) h5 rfl rfl ?_
      refine g_v1 (t := 10) (u := (.int .i64 i_6)) (.int .i64 (w64 (i_6 + 1))) rfl rfl rfl ?_
      refine g_v1 (t := 11) (u := (.int .i64 (w64 (i_6 + 1)))) (.int .i64 (w64 (i_6 + 1))) rfl rfl rfl ?_
      refine g_end ?_
      refine e_end ?_
      refine renew [(0, (encO (.at pinR []) ((NL.set a_4 i_6.toNat k_5) : NL Int))), (1, (.int .i64 (w64 (k_5 + 1)))), (4, (.int .i64 0)), (5, (.int .i64 (w64 (i_6 + 1))))] ⟨h0, h1, h4, rfl⟩ ?_
      rintro s ⟨h0, h1, h4, h5⟩
      refine .nlp ?_
      exact ih (NL.set a_4 i_6.toNat k_5) (w64 (k_5 + 1)) (w64 (i_6 + 1)) _ ⟨h0, h1, h4, h5⟩ h
    · refine .exit ?_
      refine .esq ?_
      refine .elp ?_
      refine .ebk ?_
      refine .nsq ?_
      refine .seq ?_
      refine run_reg ?_
      refine e_end ?_
      refine g_v1 (t := 1) (u := (.int .i64 k_5)) (.int .i64 k_5) h1 rfl rfl ?_
      refine g_v1 (t := 18) (u := (.int .i64 k_5)) (.int .i64 k_5) rfl rfl rfl ?_
      refine g_end ?_
      refine e_end ?_
      refine renew [(0, (encO (.at pinR []) (a_4 : NL Int))), (4, (.int .i64 k_5))] ⟨h0, rfl⟩ ?_
      rintro s ⟨h0, h4⟩
      refine .nsq ?_
      refine .ret ?_
      have hr := Option.some.inj h
      subst hr
      exact rmA (res_tmp h4) h0
def w_markIntS (F : Nat) (a_1 : (On Int)) (k_2 : Int) : Option (Int × NL Int) :=
  w_markIntS_l1 F F a_1.v k_2 0
theorem t22 (H : H22 D σ F) (a_1 : (On Int)) (k_2 : Int) (s : Nat → V) (hs : Facts [(0, (encO (.at pinR []) (a_1.v : NL Int))), (1, (.int .i64 k_2))] s) (h : w_markIntS F a_1 k_2 = some r) : Run D σ (R22 r) (.run A22 []) s := by
  unfold w_markIntS at h
  obtain ⟨h0, h1⟩ := hs
  refine .seq ?_
  refine run_reg ?_
  refine e_end ?_
  refine g_v0 (.int .i64 0) rfl rfl ?_
  refine g_end ?_
  refine e_end ?_
  refine renew [(0, (encO (.at pinR []) (a_1.v : NL Int))), (1, (.int .i64 k_2)), (4, (.int .i64 0))] ⟨h0, h1, rfl⟩ ?_
  rintro s ⟨h0, h1, h4⟩
  refine .nsq ?_
  refine .seq ?_
  refine .seq ?_
  refine run_reg ?_
  refine e_end ?_
  refine g_v0 (.int .i64 0) rfl rfl ?_
  refine g_end ?_
  refine e_end ?_
  refine renew [(0, (encO (.at pinR []) (a_1.v : NL Int))), (1, (.int .i64 k_2)), (4, (.int .i64 0)), (5, (.int .i64 0))] ⟨h0, h1, h4, rfl⟩ ?_
  rintro s ⟨h0, h1, h4, h5⟩
  refine .nsq ?_
  refine .block ?_
  refine .loop ?_
  exact t_f22_l1 H F a_1.v k_2 0 _ ⟨h0, h1, h4, h5⟩ h
end
def e22 (F : Nat) : Ent := ⟨22, da (fun (x : ((On Int) × Int × Unit)) => w_markIntS F x.1 x.2.1) (fun (r : (Int × NL Int)) => (.tup [Enc.enc (r.1 : Int), encO (.at pinR []) (r.2 : NL Int)])), pinR, false, selF []⟩
theorem p22 {F : Nat} {x0 : (On Int)} {x1 : Int} {r : (Int × NL Int)} (h : w_markIntS F x0 x1 = some r) : (e22 F).den [Arg.arg x0, Enc.enc x1] = some (.tup [Enc.enc (r.1 : Int), encO (.at pinR []) (r.2 : NL Int)]) := da_put (f := fun (x : ((On Int) × Int × Unit)) => w_markIntS F x.1 x.2.1) (t := fun (r : (Int × NL Int)) => (.tup [Enc.enc (r.1 : Int), encO (.at pinR []) (r.2 : NL Int)])) (x0, x1, ()) h
theorem o22 {D : Den} {σ : Sig} {F : Nat} (hF : Fits2 Try.prog D σ) (H : H22 D σ F) : (e22 F).Ok Try.prog := by
  refine ok_of (f := 22) (show unk 22 = 22 from rfl) (fun args r h => ?_) ⟨Try.f22, Try.func22, rfl, rfl⟩
  obtain ⟨⟨x0, x1, _⟩, y, rfl, hy, rfl⟩ := da_open h
  exact contractM_run hF (by kernel_rfl) Try.func22 rfl c22 (all_ok2 ok_encP rfl) (show 2 ≤ Try.f22.ntmps by decide) (by decide) (t22 H x0 x1 _ ⟨rfl, rfl⟩ hy)
/- loop.example/g01109/laws.heldIntS -/
def A23_2 : AC := (AC.cond (O.t 9) AC.skip (AC.exit 0))
def A23_4 : AC := (AC.cond (O.t 17) (AC.seq (AC.reg [] [(I.mk (some 4) none false (X.v (A.mov (O.k (V.int IntKind.i64 (Int.negSucc 0))))))] []) AC.ret) AC.skip)
def A23_5 : AC := (AC.reg [] [(I.mk (some 18) none false (X.v (A.mov (O.t 1)))), (I.mk (some 19) none false (X.v (A.bin BinOp.add (O.t 18) (O.k (V.int IntKind.i64 (Int.ofNat 1)))))), (I.mk (some 1) none false (X.v (A.mov (O.t 19))))] [])
def A23_6 : AC := (AC.reg [] [(I.mk (some 10) none false (X.v (A.mov (O.t 5)))), (I.mk (some 11) none false (X.v (A.bin BinOp.add (O.t 10) (O.k (V.int IntKind.i64 (Int.ofNat 1)))))), (I.mk (some 5) none false (X.v (A.mov (O.t 11))))] [])
def A23_3 : AC := (AC.seq (AC.block 1 (AC.seq (AC.seq (AC.reg [] [(I.mk (some 12) none false (X.v (A.mov (O.t 0)))), (I.mk (some 13) none false (X.v (A.mov (O.t 5)))), (I.mk (some 14) none false (X.v (A.idx (O.t 12) (O.t 13) 1))), (I.mk (some 15) none false (X.v (A.load Sh.s (O.t 14)))), (I.mk (some 16) none false (X.v (A.mov (O.t 1)))), (I.mk (some 17) none false (X.v (A.bin BinOp.neq (O.t 15) (O.t 16))))] []) A23_4) A23_5)) A23_6)
def A23_1 : AC := (AC.seq (AC.seq (AC.reg [] [(I.mk (some 6) none false (X.v (A.mov (O.t 5)))), (I.mk (some 7) none false (X.v (A.mov (O.t 0)))), (I.mk (some 8) none false (X.v (A.len (O.t 7)))), (I.mk (some 9) none false (X.v (A.bin BinOp.lss (O.t 6) (O.t 8))))] []) A23_2) A23_3)
def A23_7 : AC := (AC.seq (AC.reg [] [(I.mk (some 20) none false (X.v (A.mov (O.t 1)))), (I.mk (some 4) none false (X.v (A.mov (O.t 20))))] []) AC.ret)
def A23_9 : AC := (AC.block 0 (AC.loop A23_1))
def A23_8 : AC := (AC.seq (AC.seq (AC.reg [] [(I.mk (some 5) none false (X.v (A.mov (O.k (V.int IntKind.i64 (Int.ofNat 0))))))] []) A23_9) A23_7)
def A23 : AC := (AC.seq (AC.reg [] [(I.mk (some 4) none false (X.v (A.mov (O.k (V.int IntKind.i64 (Int.ofNat 0))))))] []) A23_8)
def an23 : List An := []
theorem c23 : cC Try.prog Try.f23.ntmps an23 (Try.f23.body.getD .skip) = some A23 := by kernel_rfl
structure H23 (D : Den) (σ : Sig) (F : Nat) : Prop where
  mk ::
abbrev R23 (r : Int) : (Nat → V) → Prop := RR Try.prog [.tmp 4] 0 false (Enc.enc (r : Int))
section
variable {D : Den} {σ : Sig} {F : Nat} {r : Int}
def w_heldIntS_l1 (F : Nat) (a_1 : (List Int))  : Nat → Int → Int → Option Int
  | 0, _, _ => none
  | k + 1, k_4, i_5 =>
    bif decide (i_5 < (a_1.length : Int)) then
      (idx a_1 i_5).bind fun e_7 =>
      bif (e_7 != k_4) then
        some (-1)
      else
        (w_heldIntS_l1 F a_1 k) (w64 (k_4 + 1)) (w64 (i_5 + 1))
    else
      some k_4
theorem t_f23_l1 (H : H23 D σ F) (a_1 : (List Int))  : ∀ (k : Nat) (k_4 : Int) (i_5 : Int) (s : Nat → V), Facts [(0, (Enc.enc (a_1 : List Int))), (1, (.int .i64 k_4)), (4, (.int .i64 0)), (5, (.int .i64 i_5))] s → w_heldIntS_l1 F a_1 k k_4 i_5 = some r → Run D σ (R23 r) (.run A23_1 [.lp A23_1, .bk 0, .sq A23_7]) s := by
  intro k
  induction k with
  | zero => intro k_4 i_5 s _ h; exact nomatch (h : (none : Option _) = some r)
  | succ k ih =>
    intro k_4 i_5 s hs h
    rw [w_heldIntS_l1] at h
    obtain ⟨h0, h1, h4, h5⟩ := hs
    refine .seq ?_
    refine .seq ?_
    refine run_reg ?_
    refine e_end ?_
    refine g_v1 (t := 5) (u := (.int .i64 i_5)) (.int .i64 i_5) h5 rfl rfl ?_
    refine g_v1 (t := 0) (u := (Enc.enc (a_1 : List Int))) (Enc.enc (a_1 : List Int)) h0 rfl rfl ?_
    refine g_v (.int .i64 (a_1.length : Int)) (ev_len (xs := a_1) rfl) ?_
    refine g_v2 (t1 := 6) (t2 := 8) (u1 := (.int .i64 i_5)) (u2 := (.int .i64 (a_1.length : Int))) (.bool (decide (i_5 < (a_1.length : Int)))) rfl rfl rfl rfl ?_
    refine g_end ?_
    refine e_end ?_
    refine renew [(0, (Enc.enc (a_1 : List Int))), (1, (.int .i64 k_4)), (4, (.int .i64 0)), (5, (.int .i64 i_5)), (9, (.bool (decide (i_5 < (a_1.length : Int)))))] ⟨h0, h1, h4, h5, rfl⟩ ?_
    rintro s ⟨h0, h1, h4, h5, h9⟩
    refine .nsq ?_
    refine run_cond (t := decide (i_5 < (a_1.length : Int))) h9 h (fun h => ?_) (fun h => ?_)
    · refine .skip ?_
      refine .nsq ?_
      refine .seq ?_
      refine .block ?_
      refine .seq ?_
      refine .seq ?_
      refine run_reg ?_
      refine e_end ?_
      refine g_v1 (t := 0) (u := (Enc.enc (a_1 : List Int))) (Enc.enc (a_1 : List Int)) h0 rfl rfl ?_
      refine g_v1 (t := 5) (u := (.int .i64 i_5)) (.int .i64 i_5) h5 rfl rfl ?_
      obtain ⟨e_7, E_e_7, h⟩ := bind_some h
      refine g_v (.ref .sh 0 [] (.int .i64 e_7)) (ev_idx (t := .sh) (lo := 0) (xs := a_1) rfl rfl E_e_7 rfl rfl) ?_
      refine g_v1 (t := 14) (u := (.ref .sh 0 [] (.int .i64 e_7))) (.int .i64 e_7) rfl rfl rfl ?_
      refine g_v1 (t := 1) (u := (.int .i64 k_4)) (.int .i64 k_4) h1 rfl rfl ?_
      refine g_v2 (t1 := 15) (t2 := 16) (u1 := (.int .i64 e_7)) (u2 := (.int .i64 k_4)) (.bool (e_7 != k_4)) rfl rfl rfl rfl ?_
      refine g_end ?_
      refine e_end ?_
      refine renew [(0, (Enc.enc (a_1 : List Int))), (1, (.int .i64 k_4)), (4, (.int .i64 0)), (5, (.int .i64 i_5)), (17, (.bool (e_7 != k_4)))] ⟨h0, h1, h4, h5, rfl⟩ ?_
      rintro s ⟨h0, h1, h4, h5, h17⟩
      refine .nsq ?_
      refine run_cond (t := (e_7 != k_4)) h17 h (fun h => ?_) (fun h => ?_)
      · refine .seq ?_
        refine run_reg ?_
        refine e_end ?_
        refine g_v0 (.int .i64 (-1)) rfl rfl ?_
        refine g_end ?_
        refine e_end ?_
        refine renew [(0, (Enc.enc (a_1 : List Int))), (1, (.int .i64 k_4)), (4, (.int .i64 (-1))), (5, (.int .i64 i_5))] ⟨h0, h1, rfl, h5⟩ ?_
        rintro s ⟨h0, h1, h4, h5⟩
        refine .nsq ?_
        refine .ret ?_
        have hr := Option.some.inj h
        subst hr
        exact rrA (res_tmp h4) rfl
      · refine .skip ?_
        refine .nsq ?_
        refine run_reg ?_
        refine e_end ?_
        refine g_v1 (t := 1) (u := (.int .i64 k_4)) (.int .i64 k_4) h1 rfl rfl ?_
        refine g_v1 (t := 18) (u := (.int .i64 k_4)) (.int .i64 (w64 (k_4 + 1))) rfl rfl rfl ?_
        refine g_v1 (t := 19) (u := (.int .i64 (w64 (k_4 + 1)))) (.int .i64 (w64 (k_4 + 1))) rfl rfl rfl ?_
        refine g_end ?_
        refine e_end ?_
        refine renew [(0, (Enc.enc (a_1 : List Int))), (1, (.int .i64 (w64 (k_4 + 1)))), (4, (.int .i64 0)), (5, (.int .i64 i_5))] ⟨h0, rfl, h4, h5⟩ ?_
        rintro s ⟨h0, h1, h4, h5⟩
        refine .nbk ?_
        refine .nsq ?_
        refine run_reg ?_
        refine e_end ?_
        refine g_v1 (t := 5) (u := (.int .i64 i_5)) (.int .i64 i_5) h5 rfl rfl ?_
        refine g_v1 (t := 10) (u := (.int .i64 i_5)) (.int .i64 (w64 (i_5 + 1))) rfl rfl rfl ?_
        refine g_v1 (t := 11) (u := (.int .i64 (w64 (i_5 + 1)))) (.int .i64 (w64 (i_5 + 1))) rfl rfl rfl ?_
        refine g_end ?_
        refine e_end ?_
        refine renew [(0, (Enc.enc (a_1 : List Int))), (1, (.int .i64 (w64 (k_4 + 1)))), (4, (.int .i64 0)), (5, (.int .i64 (w64 (i_5 + 1))))] ⟨h0, h1, h4, rfl⟩ ?_
        rintro s ⟨h0, h1, h4, h5⟩
        refine .nlp ?_
        exact ih (w64 (k_4 + 1)) (w64 (i_5 + 1)) _ ⟨h0, h1, h4, h5⟩ h
    · refine .exit ?_
      refine .esq ?_
      refine .elp ?_
      refine .ebk ?_
      refine .nsq ?_
      refine .seq ?_
      refine run_reg ?_
      refine e_end ?_
      refine g_v1 (t := 1) (u := (.int .i64 k_4)) (.int .i64 k_4) h1 rfl rfl ?_
      refine g_v1 (t := 20) (u := (.int .i64 k_4)) (.int .i64 k_4) rfl rfl rfl ?_
      refine g_end ?_
      refine e_end ?_
      refine renew [(4, (.int .i64 k_4))] rfl ?_
      rintro s h4
      refine .nsq ?_
      refine .ret ?_
      have hr := Option.some.inj h
      subst hr
      exact rrA (res_tmp h4) rfl
def w_heldIntS (F : Nat) (a_1 : (List Int)) (k_2 : Int) : Option Int :=
  w_heldIntS_l1 F a_1 F k_2 0
theorem t23 (H : H23 D σ F) (a_1 : (List Int)) (k_2 : Int) (s : Nat → V) (hs : Facts [(0, (Enc.enc (a_1 : List Int))), (1, (.int .i64 k_2))] s) (h : w_heldIntS F a_1 k_2 = some r) : Run D σ (R23 r) (.run A23 []) s := by
  unfold w_heldIntS at h
  obtain ⟨h0, h1⟩ := hs
  refine .seq ?_
  refine run_reg ?_
  refine e_end ?_
  refine g_v0 (.int .i64 0) rfl rfl ?_
  refine g_end ?_
  refine e_end ?_
  refine renew [(0, (Enc.enc (a_1 : List Int))), (1, (.int .i64 k_2)), (4, (.int .i64 0))] ⟨h0, h1, rfl⟩ ?_
  rintro s ⟨h0, h1, h4⟩
  refine .nsq ?_
  refine .seq ?_
  refine .seq ?_
  refine run_reg ?_
  refine e_end ?_
  refine g_v0 (.int .i64 0) rfl rfl ?_
  refine g_end ?_
  refine e_end ?_
  refine renew [(0, (Enc.enc (a_1 : List Int))), (1, (.int .i64 k_2)), (4, (.int .i64 0)), (5, (.int .i64 0))] ⟨h0, h1, h4, rfl⟩ ?_
  rintro s ⟨h0, h1, h4, h5⟩
  refine .nsq ?_
  refine .block ?_
  refine .loop ?_
  exact t_f23_l1 H a_1 F k_2 0 _ ⟨h0, h1, h4, h5⟩ h
end
def e23 (F : Nat) : Ent := ⟨23, da (fun (x : ((List Int) × Int × Unit)) => w_heldIntS F x.1 x.2.1) (fun (r : Int) => (Enc.enc (r : Int))), 0, false, selF []⟩
theorem p23 {F : Nat} {x0 : (List Int)} {x1 : Int} {r : Int} (h : w_heldIntS F x0 x1 = some r) : (e23 F).den [Enc.enc x0, Enc.enc x1] = some (Enc.enc (r : Int)) := da_put (f := fun (x : ((List Int) × Int × Unit)) => w_heldIntS F x.1 x.2.1) (t := fun (r : Int) => (Enc.enc (r : Int))) (x0, x1, ()) h
theorem o23 {D : Den} {σ : Sig} {F : Nat} (hF : Fits2 Try.prog D σ) (H : H23 D σ F) : (e23 F).Ok Try.prog := by
  refine ok_of (f := 23) (show unk 23 = 23 from rfl) (fun args r h => ?_) ⟨Try.f23, Try.func23, rfl, rfl⟩
  obtain ⟨⟨x0, x1, _⟩, y, rfl, hy, rfl⟩ := da_open h
  exact contract_run hF (by kernel_rfl) Try.func23 rfl c23 (show 2 ≤ Try.f23.ntmps by decide) (t23 H x0 x1 _ ⟨rfl, rfl⟩ hy)
/- loop.example/g01109/laws.FnExactLeastBandwidth -/
def A9_1 : AC := (AC.cond (O.t 108) (AC.seq (AC.reg [] [(I.mk (some 2) none false (X.v (A.mov (O.k (V.bool false)))))] []) AC.ret) AC.skip)
def A9_5 : AC := (AC.cond (O.t 113) (AC.seq (AC.reg [] [(I.mk (some 2) none false (X.v (A.mov (O.k (V.bool false)))))] []) AC.ret) AC.skip)
def A9_7 : AC := (AC.cond (O.t 116) (AC.seq (AC.reg [] [(I.mk (some 2) none false (X.v (A.mov (O.k (V.bool false)))))] []) AC.ret) AC.skip)
def A9_8 : AC := (AC.seq (AC.reg [] [(I.mk (some 2) none false (X.v (A.mov (O.k (V.bool true)))))] []) AC.ret)
def A9_6 : AC := (AC.seq (AC.seq (AC.reg [] [(I.mk (some 114) none false (X.v (A.mov (O.t 13)))), (I.mk (some 115) none false (X.v (A.mov (O.t 12)))), (I.mk (some 116) none false (X.v (A.bin BinOp.neq (O.t 114) (O.t 115))))] []) A9_7) A9_8)
def A9_4 : AC := (AC.seq (AC.seq (AC.reg [] [(I.mk (some 112) none false (X.v (A.mov (O.t 13)))), (I.mk (some 113) none false (X.v (A.bin BinOp.lss (O.t 112) (O.k (V.int IntKind.i64 (Int.ofNat 0))))))] []) A9_5) A9_6)
def A9_3 : AC := (AC.seq (AC.reg [] [(I.mk (some 109) none false (X.v (A.mov (O.t 8)))), (I.mk (some 110) none false (X.v (A.mov (O.t 13)))), (I.mk (some 111) none false (X.call (O.k (V.fn 23 [] [])) [(O.t 109), (O.t 110)])), (I.mk (some 13) none false (X.v (A.mov (O.t 111))))] []) A9_4)
def A9_2 : AC := (AC.seq (AC.reg [] [(I.mk (some 13) none false (X.v (A.mov (O.k (V.int IntKind.i64 (Int.ofNat 1))))))] []) A9_3)
def A9_9 : AC := (AC.cond (O.t 76) (AC.seq (AC.reg [] [(I.mk (some 2) none false (X.v (A.mov (O.k (V.bool false)))))] []) AC.ret) AC.skip)
def A9_15 : AC := (AC.cond (O.t 84) (AC.seq (AC.reg [] [(I.mk (some 2) none false (X.v (A.mov (O.k (V.bool false)))))] []) AC.ret) AC.skip)
def A9_17 : AC := (AC.cond (O.t 87) (AC.seq (AC.reg [] [(I.mk (some 2) none false (X.v (A.mov (O.k (V.bool false)))))] []) AC.ret) AC.skip)
def A9_19 : AC := (AC.seq (AC.seq (AC.reg [] [(I.mk (some 95) none false (X.v (A.mov (O.t 14)))), (I.mk (some 96) none false (X.v (A.mov (O.t 4)))), (I.mk (some 97) none false (X.call (O.k (V.fn 19 [] [])) [(O.t 95), (O.t 96)])), (I.mk (some 98) none false (X.v (A.un UnOp.not (O.t 97)))), (I.mk (some 99) none false (X.v (A.mov (O.t 98)))), (I.mk (some 100) (some (99, false)) false (X.v (A.mov (O.t 15)))), (I.mk (some 101) (some (99, false)) false (X.v (A.mov (O.t 5)))), (I.mk (some 102) (some (99, false)) false (X.v (A.bin BinOp.neq (O.t 100) (O.t 101)))), (I.mk (some 103) none false (X.v (A.pick (O.t 99) (O.k (V.bool true)) (O.t 102)))), (I.mk (some 104) none false (X.v (A.mov (O.t 103)))), (I.mk (some 105) (some (104, false)) false (X.v (A.mov (O.t 16)))), (I.mk (some 106) (some (104, false)) false (X.v (A.mov (O.t 6)))), (I.mk (some 107) (some (104, false)) false (X.v (A.beq true (O.t 105) (O.t 106)))), (I.mk (some 108) none false (X.v (A.pick (O.t 104) (O.k (V.bool true)) (O.t 107))))] []) A9_1) A9_2)
def A9_18 : AC := (AC.seq (AC.reg [.clr [91]] [(I.mk (some 89) none false (X.v (A.load (Sh.ag [Sh.s, Sh.p]) (O.t 1)))), (I.mk (some 90) none false (X.call (O.k (V.fn 17 [] [])) [(O.t 89)])), (I.mk (some 91) none false (X.callO (O.k (V.fn 36 [] [])) [(O.t 90)])), (I.mk (some 88) none false (X.v (A.mov (O.t 91)))), (I.mk (some 92) none false (X.v (A.ext (O.t 88) 0))), (I.mk (some 93) none false (X.v (A.extS (O.t 88) 1))), (I.mk (some 94) none false (X.v (A.extS (O.t 88) 2))), (I.mk (some 14) none false (X.v (A.mov (O.t 92)))), (I.mk (some 15) none false (X.v (A.mov (O.t 93)))), (I.mk (some 16) none false (X.v (A.mov (O.t 94))))] [.home 91 14]) A9_19)
def A9_16 : AC := (AC.seq (AC.seq (AC.reg [] [(I.mk (some 85) none false (X.v (A.mov (O.t 13)))), (I.mk (some 86) none false (X.v (A.mov (O.t 12)))), (I.mk (some 87) none false (X.v (A.bin BinOp.neq (O.t 85) (O.t 86))))] []) A9_17) A9_18)
def A9_14 : AC := (AC.seq (AC.seq (AC.reg [] [(I.mk (some 83) none false (X.v (A.mov (O.t 13)))), (I.mk (some 84) none false (X.v (A.bin BinOp.lss (O.t 83) (O.k (V.int IntKind.i64 (Int.ofNat 0))))))] []) A9_15) A9_16)
def A9_13 : AC := (AC.seq (AC.reg [] [(I.mk (some 80) none false (X.v (A.mov (O.t 8)))), (I.mk (some 81) none false (X.v (A.mov (O.t 13)))), (I.mk (some 82) none false (X.call (O.k (V.fn 23 [] [])) [(O.t 80), (O.t 81)])), (I.mk (some 13) none false (X.v (A.mov (O.t 82))))] []) A9_14)
def A9_12 : AC := (AC.seq (AC.reg [] [(I.mk (some 13) none false (X.v (A.mov (O.k (V.int IntKind.i64 (Int.ofNat 1))))))] []) A9_13)
def A9_11 : AC := (AC.seq (AC.reg [] [(I.mk (some 77) none false (X.v (A.mov (O.t 8)))), (I.mk (some 78) none false (X.v (A.mov (O.t 12)))), (I.mk (some 79) none false (X.mark (O.k (V.fn 22 [] [])) [(O.t 77), (O.t 78)])), (I.mk (some 12) none false (X.v (A.mov (O.t 79))))] []) A9_12)
def A9_10 : AC := (AC.seq (AC.reg [] [(I.mk (some 12) none false (X.v (A.mov (O.k (V.int IntKind.i64 (Int.ofNat 1))))))] []) A9_11)
def A9_20 : AC := (AC.cond (O.t 50) (AC.seq (AC.reg [] [(I.mk (some 2) none false (X.v (A.mov (O.k (V.bool false)))))] []) AC.ret) AC.skip)
def A9_22 : AC := (AC.cond (O.t 55) (AC.seq (AC.reg [] [(I.mk (some 2) none false (X.v (A.mov (O.k (V.bool false)))))] []) AC.ret) AC.skip)
def A9_25 : AC := (AC.seq (AC.seq (AC.reg [] [(I.mk (some 59) none false (X.v (A.mov (O.t 11)))), (I.mk (some 60) none false (X.v (A.bin BinOp.lss (O.t 59) (O.k (V.int IntKind.i64 (Int.ofNat 0)))))), (I.mk (some 61) none false (X.v (A.mov (O.t 60)))), (I.mk (some 62) (some (61, false)) false (X.v (A.mov (O.t 8)))), (I.mk (some 63) (some (61, false)) false (X.v (A.mov (O.t 4)))), (I.mk (some 64) (some (61, false)) false (X.call (O.k (V.fn 19 [] [])) [(O.t 62), (O.t 63)])), (I.mk (some 65) (some (61, false)) false (X.v (A.un UnOp.not (O.t 64)))), (I.mk (some 66) none false (X.v (A.pick (O.t 61) (O.k (V.bool true)) (O.t 65)))), (I.mk (some 67) none false (X.v (A.mov (O.t 66)))), (I.mk (some 68) (some (67, false)) false (X.v (A.mov (O.t 9)))), (I.mk (some 69) (some (67, false)) false (X.v (A.mov (O.t 5)))), (I.mk (some 70) (some (67, false)) false (X.v (A.bin BinOp.neq (O.t 68) (O.t 69)))), (I.mk (some 71) none false (X.v (A.pick (O.t 67) (O.k (V.bool true)) (O.t 70)))), (I.mk (some 72) none false (X.v (A.mov (O.t 71)))), (I.mk (some 73) (some (72, false)) false (X.v (A.mov (O.t 10)))), (I.mk (some 74) (some (72, false)) false (X.v (A.mov (O.t 6)))), (I.mk (some 75) (some (72, false)) false (X.v (A.beq true (O.t 73) (O.t 74)))), (I.mk (some 76) none false (X.v (A.pick (O.t 72) (O.k (V.bool true)) (O.t 75))))] []) A9_9) A9_10)
def A9_24 : AC := (AC.seq (AC.reg [] [(I.mk (some 56) none false (X.v (A.load (Sh.ag [Sh.s, Sh.p]) (O.t 7)))), (I.mk (some 57) none false (X.v (A.mov (O.t 11)))), (I.mk (some 58) none false (X.mark (O.k (V.fn 21 [] [])) [(O.t 56), (O.t 57)])), (I.mk (some 11) none false (X.v (A.mov (O.t 58))))] []) A9_25)
def A9_23 : AC := (AC.seq (AC.reg [] [(I.mk (some 11) none false (X.v (A.mov (O.k (V.int IntKind.i64 (Int.ofNat 1))))))] []) A9_24)
def A9_21 : AC := (AC.seq (AC.seq (AC.reg [] [(I.mk (some 51) none false (X.v (A.load (Sh.ag [Sh.s, Sh.p]) (O.t 7)))), (I.mk (some 52) none false (X.v (A.load (Sh.ag [Sh.s, Sh.p]) (O.t 1)))), (I.mk (some 53) none false (X.call (O.k (V.fn 17 [] [])) [(O.t 52)])), (I.mk (some 54) none false (X.call (O.k (V.fn 20 [] [])) [(O.t 51), (O.t 53)])), (I.mk (some 55) none false (X.v (A.un UnOp.not (O.t 54))))] []) A9_22) A9_23)
def A9_29 : AC := (AC.cond (O.t 21) (AC.seq (AC.reg [] [(I.mk (some 2) none false (X.v (A.mov (O.k (V.bool true)))))] []) AC.ret) AC.skip)
def A9_33 : AC := (AC.seq (AC.seq (AC.reg [] [(I.mk (some 37) none false (X.v (A.mov (O.t 8)))), (I.mk (some 38) none false (X.v (A.mov (O.t 4)))), (I.mk (some 39) none false (X.call (O.k (V.fn 19 [] [])) [(O.t 37), (O.t 38)])), (I.mk (some 40) none false (X.v (A.un UnOp.not (O.t 39)))), (I.mk (some 41) none false (X.v (A.mov (O.t 40)))), (I.mk (some 42) (some (41, false)) false (X.v (A.mov (O.t 9)))), (I.mk (some 43) (some (41, false)) false (X.v (A.mov (O.t 5)))), (I.mk (some 44) (some (41, false)) false (X.v (A.bin BinOp.neq (O.t 42) (O.t 43)))), (I.mk (some 45) none false (X.v (A.pick (O.t 41) (O.k (V.bool true)) (O.t 44)))), (I.mk (some 46) none false (X.v (A.mov (O.t 45)))), (I.mk (some 47) (some (46, false)) false (X.v (A.mov (O.t 10)))), (I.mk (some 48) (some (46, false)) false (X.v (A.mov (O.t 6)))), (I.mk (some 49) (some (46, false)) false (X.v (A.beq true (O.t 47) (O.t 48)))), (I.mk (some 50) none false (X.v (A.pick (O.t 46) (O.k (V.bool true)) (O.t 49))))] []) A9_20) A9_21)
def A9_32 : AC := (AC.seq (AC.reg [.clr [33]] [(I.mk (some 32) none false (X.v (A.load (Sh.ag [Sh.s, Sh.p]) (O.t 7)))), (I.mk (some 33) none false (X.callO (O.k (V.fn 36 [] [])) [(O.t 32)])), (I.mk (some 31) none false (X.v (A.mov (O.t 33)))), (I.mk (some 34) none false (X.v (A.ext (O.t 31) 0))), (I.mk (some 35) none false (X.v (A.extS (O.t 31) 1))), (I.mk (some 36) none false (X.v (A.extS (O.t 31) 2))), (I.mk (some 8) none false (X.v (A.mov (O.t 34)))), (I.mk (some 9) none false (X.v (A.mov (O.t 35)))), (I.mk (some 10) none false (X.v (A.mov (O.t 36))))] [.home 33 8]) A9_33)
def A9_31 : AC := (AC.seq (AC.reg [.clr [30, 7]] [(I.mk (some 29) none false (X.v (A.load (Sh.ag [Sh.s, Sh.p]) (O.t 1)))), (I.mk (some 30) none false (X.callO (O.k (V.fn 17 [] [])) [(O.t 29)])), (I.mk (some 7) none false (X.alloc (V.agg [(V.int IntKind.i64 (Int.ofNat 0)), (V.sl Tok.nl (Sh.ag [Sh.s, Sh.s]) 0 [])]))), (I.mk none none false (X.store (Sh.ag [Sh.s, Sh.p]) (O.t 7) (O.t 30)))] []) A9_32)
def A9_30 : AC := (AC.seq (AC.reg [] [(I.mk (some 23) none false (X.v (A.load (Sh.ag [Sh.s, Sh.p]) (O.t 1)))), (I.mk (some 24) none false (X.call (O.k (V.fn 17 [] [])) [(O.t 23)])), (I.mk (some 25) none false (X.call (O.k (V.fn 35 [] [])) [(O.t 24)])), (I.mk (some 22) none false (X.v (A.mov (O.t 25)))), (I.mk (some 26) none false (X.v (A.ext (O.t 22) 0))), (I.mk (some 27) none false (X.v (A.extS (O.t 22) 1))), (I.mk (some 28) none false (X.v (A.extS (O.t 22) 2))), (I.mk (some 4) none false (X.v (A.mov (O.t 26)))), (I.mk (some 5) none false (X.v (A.mov (O.t 27)))), (I.mk (some 6) none false (X.v (A.mov (O.t 28))))] []) A9_31)
def A9_28 : AC := (AC.seq (AC.seq (AC.reg [] [(I.mk (some 20) none false (X.v (A.mov (O.t 3)))), (I.mk (some 21) none false (X.v (A.bin BinOp.lss (O.t 20) (O.k (V.int IntKind.i64 (Int.ofNat 0))))))] []) A9_29) A9_30)
def A9_27 : AC := (AC.seq (AC.reg [] [(I.mk (some 17) none false (X.v (A.load (Sh.ag [Sh.s, Sh.p]) (O.t 1)))), (I.mk (some 18) none false (X.v (A.mov (O.t 3)))), (I.mk (some 19) none false (X.call (O.k (V.fn 15 [] [])) [(O.t 17), (O.t 18)])), (I.mk (some 3) none false (X.v (A.mov (O.t 19))))] []) A9_28)
def A9_26 : AC := (AC.seq (AC.reg [] [(I.mk (some 3) none false (X.v (A.mov (O.k (V.int IntKind.i64 (Int.ofNat 1048576))))))] []) A9_27)
def A9 : AC := (AC.seq (AC.reg [.clr [1]] [(I.mk (some 1) none false (X.box (O.t 0))), (I.mk (some 2) none false (X.v (A.mov (O.k (V.bool false)))))] []) A9_26)
def an9 : List An := [{ id := 0, pre := [.clr [1]], ep := [], lin := [], sp := [] }, { id := 6, pre := [.clr [30, 7]], ep := [], lin := [], sp := [1001] }, { id := 7, pre := [.clr [33]], ep := [.home 33 8], lin := [], sp := [1001] }, { id := 13, pre := [], ep := [], lin := [], sp := [2] }, { id := 17, pre := [], ep := [], lin := [], sp := [2] }, { id := 24, pre := [.clr [91]], ep := [.home 91 14], lin := [], sp := [1002] }]
theorem c9 : cC Try.prog Try.f9.ntmps an9 (Try.f9.body.getD .skip) = some A9 := by kernel_rfl
structure H9 (D : Den) (σ : Sig) (F : Nat) : Prop where
  c15 : ∀ (x0 : (Int × (List (Int × Int)))) (x1 : Int) r, w_szGraph F x0 x1 = some r → D 15 [Enc.enc x0, Enc.enc x1] = some (Enc.enc (r : Int))
  g15 : σ 15 = some (0, false)
  c17 : ∀ (x0 : (Int × (List (Int × Int)))) r, w_toGraph F x0 = some r → D 17 [Enc.enc x0] = some (Enc.enc (r : (Int × (List (Int × Int)))))
  g17 : σ 17 = some (0, true)
  c35 : ∀ (x0 : (Int × (List (Int × Int)))) r, s_LeastBandwidth F x0 = some r → D 35 [Enc.enc x0] = some (.tup [Enc.enc (r.a : (List Int)), Enc.enc (r.b : Int), Enc.enc (r.c : Bool)])
  g35 : σ 35 = some (0, true)
  c17o : ∀ (x0 : (Int × (List (Int × Int)))) r, w_toGraph_o F x0 = some r → D 1000000017 [Enc.enc x0] = some (.agg [(Enc.enc (r.1 : Int)), (encO .sh (r.2 : NL (Int × Int)))])
  g17o : σ 1000000017 = some (1, false)
  c36o : ∀ (x0 : (Int × (List (Int × Int)))) r, i_LeastBandwidth_o F x0 = some r → D 1000000036 [Enc.enc x0] = some (.tup [(encO .sh (r.a : NL Int)), (Enc.enc (r.b : Int)), (Enc.enc (r.c : Bool))])
  g36o : σ 1000000036 = some (1, false)
  c19 : ∀ (x0 : (List Int)) (x1 : (List Int)) r, w_eqIntS F x0 x1 = some r → D 19 [Enc.enc x0, Enc.enc x1] = some (Enc.enc (r : Bool))
  g19 : σ 19 = some (0, false)
  c20 : ∀ (x0 : (Int × (List (Int × Int)))) (x1 : (Int × (List (Int × Int)))) r, w_eqGraph F x0 x1 = some r → D 20 [Enc.enc x0, Enc.enc x1] = some (Enc.enc (r : Bool))
  g20 : σ 20 = some (0, false)
  c21 : ∀ (x0 : (Og (Int × Int))) (x1 : Int) r, w_markGraph F x0 x1 = some r → D 21 [Arg.arg x0, Enc.enc x1] = some (.tup [Enc.enc (r : Int), .dead])
  g21 : σ 21 = some (pinR, false)
  c22 : ∀ (x0 : (On Int)) (x1 : Int) r, w_markIntS F x0 x1 = some r → D 22 [Arg.arg x0, Enc.enc x1] = some (.tup [Enc.enc (r.1 : Int), encO (.at pinR []) (r.2 : NL Int)])
  g22 : σ 22 = some (pinR, false)
  c23 : ∀ (x0 : (List Int)) (x1 : Int) r, w_heldIntS F x0 x1 = some r → D 23 [Enc.enc x0, Enc.enc x1] = some (Enc.enc (r : Int))
  g23 : σ 23 = some (0, false)
abbrev R9 (r : Bool) : (Nat → V) → Prop := RR Try.prog [.tmp 2] 0 false (Enc.enc (r : Bool))
section
variable {D : Den} {σ : Sig} {F : Nat} {r : Bool}
def w_FnExactLeastBandwidth_j1 (F : Nat) (m_15 : (NL Int)) (r_14 : (Int × NL Int))  (t108_20 : Bool) : Option Bool :=
  bif t108_20 then
    some false
  else
    (w_heldIntS F m_15.list 1).bind fun r_21 =>
    bif decide (r_21 < 0) then
      some false
    else
      bif (r_21 != r_14.1) then
        some false
      else
        some true
theorem t_f9_j1 (H : H9 D σ F) (m_15 : (NL Int)) (r_14 : (Int × NL Int))  (t108_20 : Bool) (s : Nat → V) (hs : Facts [(2, (.bool false)), (8, (encO (.at 8 [0]) (m_15 : NL Int))), (12, (.int .i64 r_14.1)), (108, (.bool t108_20))] s) (h : w_FnExactLeastBandwidth_j1 F m_15 r_14  t108_20 = some r) : Run D σ (R9 r) (.nrm [.sq A9_1, .sq A9_2]) s := by
  unfold w_FnExactLeastBandwidth_j1 at h
  obtain ⟨h2, h8, h12, h108⟩ := hs
  refine .nsq ?_
  refine run_cond (t := t108_20) h108 h (fun h => ?_) (fun h => ?_)
  · refine .seq ?_
    refine run_reg ?_
    refine e_end ?_
    refine g_v0 (.bool false) rfl rfl ?_
    refine g_end ?_
    refine e_end ?_
    refine renew [(2, (.bool false)), (8, (encO (.at 8 [0]) (m_15 : NL Int))), (12, (.int .i64 r_14.1))] ⟨rfl, h8, h12⟩ ?_
    rintro s ⟨h2, h8, h12⟩
    refine .nsq ?_
    refine .ret ?_
    have hr := Option.some.inj h
    subst hr
    exact rrA (res_tmp h2) rfl
  · refine .skip ?_
    refine .nsq ?_
    refine .seq ?_
    refine run_reg ?_
    refine e_end ?_
    refine g_v0 (.int .i64 1) rfl rfl ?_
    refine g_end ?_
    refine e_end ?_
    refine renew [(2, (.bool false)), (8, (encO (.at 8 [0]) (m_15 : NL Int))), (12, (.int .i64 r_14.1)), (13, (.int .i64 1))] ⟨h2, h8, h12, rfl⟩ ?_
    rintro s ⟨h2, h8, h12, h13⟩
    refine .nsq ?_
    refine .seq ?_
    refine run_reg ?_
    refine e_end ?_
    refine g_v (encO (.at 8 [0]) (m_15 : NL Int)) (ev_mov h8 ok_encO) ?_
    refine g_v1 (t := 13) (u := (.int .i64 1)) (.int .i64 1) h13 rfl rfl ?_
    obtain ⟨r_21, E_r_21, h⟩ := bind_some h
    refine g_call (m := 0) (al := false) (r := (Enc.enc (r_21 : Int))) [Enc.enc (m_15.list : (List Int)), Enc.enc (1 : Int)] (ta_cons (v := (encO (.at 8 [0]) (m_15 : NL Int))) rfl ok_encP (erase_encO (o := m_15)) (ta_cons (v := (.int .i64 1)) rfl rfl rfl ta_nil)) (H.c23 _ _ _ E_r_21) H.g23 rfl rfl rfl rfl ?_
    refine g_v1 (t := 111) (u := (.int .i64 r_21)) (.int .i64 r_21) rfl rfl rfl ?_
    refine g_end ?_
    refine e_end ?_
    refine renew [(2, (.bool false)), (12, (.int .i64 r_14.1)), (13, (.int .i64 r_21))] ⟨h2, h12, rfl⟩ ?_
    rintro s ⟨h2, h12, h13⟩
    refine .nsq ?_
    refine .seq ?_
    refine .seq ?_
    refine run_reg ?_
    refine e_end ?_
    refine g_v1 (t := 13) (u := (.int .i64 r_21)) (.int .i64 r_21) h13 rfl rfl ?_
    refine g_v1 (t := 112) (u := (.int .i64 r_21)) (.bool (decide (r_21 < 0))) rfl rfl rfl ?_
    refine g_end ?_
    refine e_end ?_
    refine renew [(2, (.bool false)), (12, (.int .i64 r_14.1)), (13, (.int .i64 r_21)), (113, (.bool (decide (r_21 < 0))))] ⟨h2, h12, h13, rfl⟩ ?_
    rintro s ⟨h2, h12, h13, h113⟩
    refine .nsq ?_
    refine run_cond (t := decide (r_21 < 0)) h113 h (fun h => ?_) (fun h => ?_)
    · refine .seq ?_
      refine run_reg ?_
      refine e_end ?_
      refine g_v0 (.bool false) rfl rfl ?_
      refine g_end ?_
      refine e_end ?_
      refine renew [(2, (.bool false)), (12, (.int .i64 r_14.1)), (13, (.int .i64 r_21))] ⟨rfl, h12, h13⟩ ?_
      rintro s ⟨h2, h12, h13⟩
      refine .nsq ?_
      refine .ret ?_
      have hr := Option.some.inj h
      subst hr
      exact rrA (res_tmp h2) rfl
    · refine .skip ?_
      refine .nsq ?_
      refine .seq ?_
      refine .seq ?_
      refine run_reg ?_
      refine e_end ?_
      refine g_v1 (t := 13) (u := (.int .i64 r_21)) (.int .i64 r_21) h13 rfl rfl ?_
      refine g_v1 (t := 12) (u := (.int .i64 r_14.1)) (.int .i64 r_14.1) h12 rfl rfl ?_
      refine g_v2 (t1 := 114) (t2 := 115) (u1 := (.int .i64 r_21)) (u2 := (.int .i64 r_14.1)) (.bool (r_21 != r_14.1)) rfl rfl rfl rfl ?_
      refine g_end ?_
      refine e_end ?_
      refine renew [(2, (.bool false)), (116, (.bool (r_21 != r_14.1)))] ⟨h2, rfl⟩ ?_
      rintro s ⟨h2, h116⟩
      refine .nsq ?_
      refine run_cond (t := (r_21 != r_14.1)) h116 h (fun h => ?_) (fun h => ?_)
      · refine .seq ?_
        refine run_reg ?_
        refine e_end ?_
        refine g_v0 (.bool false) rfl rfl ?_
        refine g_end ?_
        refine e_end ?_
        refine renew [(2, (.bool false))] rfl ?_
        rintro s h2
        refine .nsq ?_
        refine .ret ?_
        have hr := Option.some.inj h
        subst hr
        exact rrA (res_tmp h2) rfl
      · refine .skip ?_
        refine .nsq ?_
        refine .seq ?_
        refine run_reg ?_
        refine e_end ?_
        refine g_v0 (.bool true) rfl rfl ?_
        refine g_end ?_
        refine e_end ?_
        refine renew [(2, (.bool true))] rfl ?_
        rintro s h2
        refine .nsq ?_
        refine .ret ?_
        have hr := Option.some.inj h
        subst hr
        exact rrA (res_tmp h2) rfl
def w_FnExactLeastBandwidth_j2 (F : Nat) (aG_1 : (Int × (List (Int × Int)))) (r_4 : (S3 (List Int) Int Bool)) (r_6 : (S3 (NL Int) Int Bool))  (t76_13 : Bool) : Option Bool :=
  bif t76_13 then
    some false
  else
    (w_markIntS F (On.mk r_6.a : (On Int)) 1).bind fun r_14 =>
    (remark r_6.a r_14.2).bind fun m_15 =>
    (w_heldIntS F m_15.list 1).bind fun r_16 =>
    bif decide (r_16 < 0) then
      some false
    else
      bif (r_16 != r_14.1) then
        some false
      else
        (w_toGraph F aG_1).bind fun r_17 =>
        (i_LeastBandwidth_o F r_17).bind fun r_18 =>
        (w_eqIntS F r_18.a.list r_4.a).bind fun r_22 =>
        bif (!r_22) then
          w_FnExactLeastBandwidth_j1 F m_15 r_14 true
        else
          bif (r_18.b != r_4.b) then
            w_FnExactLeastBandwidth_j1 F m_15 r_14 true
          else
            w_FnExactLeastBandwidth_j1 F m_15 r_14 (r_18.c != r_4.c)
theorem t_f9_j2 (H : H9 D σ F) (aG_1 : (Int × (List (Int × Int)))) (r_4 : (S3 (List Int) Int Bool)) (r_6 : (S3 (NL Int) Int Bool))  (t76_13 : Bool) (s : Nat → V) (hs : Facts [(1, (.ref (.bx 1) 0 [] (.agg [(.int .i64 aG_1.1), (Enc.enc (aG_1.2 : List (Int × Int)))]))), (2, (.bool false)), (4, (Enc.enc (r_4.a : List Int))), (5, (.int .i64 r_4.b)), (6, (.bool r_4.c)), (8, (encO (.at 8 [0]) (r_6.a : NL Int))), (76, (.bool t76_13))] s) (h : w_FnExactLeastBandwidth_j2 F aG_1 r_4 r_6  t76_13 = some r) : Run D σ (R9 r) (.nrm [.sq A9_9, .sq A9_10]) s := by
  unfold w_FnExactLeastBandwidth_j2 at h
  obtain ⟨h1, h2, h4, h5, h6, h8, h76⟩ := hs
  refine .nsq ?_
  refine run_cond (t := t76_13) h76 h (fun h => ?_) (fun h => ?_)
  · refine .seq ?_
    refine run_reg ?_
    refine e_end ?_
    refine g_v0 (.bool false) rfl rfl ?_
    refine g_end ?_
    refine e_end ?_
    refine renew [(1, (.ref (.bx 1) 0 [] (.agg [(.int .i64 aG_1.1), (Enc.enc (aG_1.2 : List (Int × Int)))]))), (2, (.bool false)), (4, (Enc.enc (r_4.a : List Int))), (5, (.int .i64 r_4.b)), (6, (.bool r_4.c)), (8, (encO (.at 8 [0]) (r_6.a : NL Int)))] ⟨h1, rfl, h4, h5, h6, h8⟩ ?_
    rintro s ⟨h1, h2, h4, h5, h6, h8⟩
    refine .nsq ?_
    refine .ret ?_
    have hr := Option.some.inj h
    subst hr
    exact rrA (res_tmp h2) rfl
  · refine .skip ?_
    refine .nsq ?_
    refine .seq ?_
    refine run_reg ?_
    refine e_end ?_
    refine g_v0 (.int .i64 1) rfl rfl ?_
    refine g_end ?_
    refine e_end ?_
    refine renew [(1, (.ref (.bx 1) 0 [] (.agg [(.int .i64 aG_1.1), (Enc.enc (aG_1.2 : List (Int × Int)))]))), (2, (.bool false)), (4, (Enc.enc (r_4.a : List Int))), (5, (.int .i64 r_4.b)), (6, (.bool r_4.c)), (8, (encO (.at 8 [0]) (r_6.a : NL Int))), (12, (.int .i64 1))] ⟨h1, h2, h4, h5, h6, h8, rfl⟩ ?_
    rintro s ⟨h1, h2, h4, h5, h6, h8, h12⟩
    refine .nsq ?_
    refine .seq ?_
    refine run_reg ?_
    refine e_end ?_
    refine g_v (encO (.at 8 [0]) (r_6.a : NL Int)) (ev_mov h8 ok_encO) ?_
    refine g_v1 (t := 12) (u := (.int .i64 1)) (.int .i64 1) h12 rfl rfl ?_
    obtain ⟨r_14, E_r_14, h⟩ := bind_some h
    obtain ⟨m_15, E_m_15, h⟩ := bind_some h
    refine g_mark (v := (encO (.at 8 [0]) (r_6.a : NL Int))) rfl (canon_own (o := (r_6.a : NL Int)) rfl) (rdAll_cons (v := (.int .i64 1)) rfl rfl rdAll_nil) (H.c22 _ _ _ E_r_14) H.g22 rfl rfl (fun s_6 hm_6 => ?_)
    refine g_v1 (t := 79) (u := (.int .i64 r_14.1)) (.int .i64 r_14.1) rfl rfl rfl ?_
    refine g_end ?_
    refine e_end ?_
    refine renew [(1, (.ref (.bx 1) 0 [] (.agg [(.int .i64 aG_1.1), (Enc.enc (aG_1.2 : List (Int × Int)))]))), (2, (.bool false)), (4, (Enc.enc (r_4.a : List Int))), (5, (.int .i64 r_4.b)), (6, (.bool r_4.c)), (8, (encO (.at 8 [0]) (m_15 : NL Int))), (12, (.int .i64 r_14.1))] ⟨(show s_6 1 = (.ref (.bx 1) 0 [] (.agg [(.int .i64 aG_1.1), (Enc.enc (aG_1.2 : List (Int × Int)))])) from hm_6 1 (.ref (.bx 1) 0 [] (.agg [(.int .i64 aG_1.1), (Enc.enc (aG_1.2 : List (Int × Int)))])) (.ref (.bx 1) 0 [] (.agg [(.int .i64 aG_1.1), (Enc.enc (aG_1.2 : List (Int × Int)))])) h1 (rem_map rfl (map_bx (killO_ne rfl) (map_agg (maps_cons rfl (maps_cons (Enc.map_enc _ (aG_1.2 : List (Int × Int))) maps_nil)))))), (show s_6 2 = (.bool false) from hm_6 2 (.bool false) (.bool false) h2 (rem_map rfl rfl)), (show s_6 4 = (Enc.enc (r_4.a : List Int)) from hm_6 4 (Enc.enc (r_4.a : List Int)) (Enc.enc (r_4.a : List Int)) h4 (rem_enc (xs := (r_4.a : List Int)))), (show s_6 5 = (.int .i64 r_4.b) from hm_6 5 (.int .i64 r_4.b) (.int .i64 r_4.b) h5 (rem_map rfl rfl)), (show s_6 6 = (.bool r_4.c) from hm_6 6 (.bool r_4.c) (.bool r_4.c) h6 (rem_map rfl rfl)), (show s_6 8 = (encO (.at 8 [0]) (m_15 : NL Int)) from hm_6 8 (encO (.at 8 [0]) (r_6.a : NL Int)) (encO (.at 8 [0]) (m_15 : NL Int)) h8 (marked_own (o := (r_6.a : NL Int)) rfl E_m_15)), rfl⟩ ?_
    rintro s ⟨h1, h2, h4, h5, h6, h8, h12⟩
    refine .nsq ?_
    refine .seq ?_
    refine run_reg ?_
    refine e_end ?_
    refine g_v0 (.int .i64 1) rfl rfl ?_
    refine g_end ?_
    refine e_end ?_
    refine renew [(1, (.ref (.bx 1) 0 [] (.agg [(.int .i64 aG_1.1), (Enc.enc (aG_1.2 : List (Int × Int)))]))), (2, (.bool false)), (4, (Enc.enc (r_4.a : List Int))), (5, (.int .i64 r_4.b)), (6, (.bool r_4.c)), (8, (encO (.at 8 [0]) (m_15 : NL Int))), (12, (.int .i64 r_14.1)), (13, (.int .i64 1))] ⟨h1, h2, h4, h5, h6, h8, h12, rfl⟩ ?_
    rintro s ⟨h1, h2, h4, h5, h6, h8, h12, h13⟩
    refine .nsq ?_
    refine .seq ?_
    refine run_reg ?_
    refine e_end ?_
    refine g_v (encO (.at 8 [0]) (m_15 : NL Int)) (ev_mov h8 ok_encO) ?_
    refine g_v1 (t := 13) (u := (.int .i64 1)) (.int .i64 1) h13 rfl rfl ?_
    obtain ⟨r_16, E_r_16, h⟩ := bind_some h
    refine g_call (m := 0) (al := false) (r := (Enc.enc (r_16 : Int))) [Enc.enc (m_15.list : (List Int)), Enc.enc (1 : Int)] (ta_cons (v := (encO (.at 8 [0]) (m_15 : NL Int))) rfl ok_encP (erase_encO (o := m_15)) (ta_cons (v := (.int .i64 1)) rfl rfl rfl ta_nil)) (H.c23 _ _ _ E_r_16) H.g23 rfl rfl rfl rfl ?_
    refine g_v1 (t := 82) (u := (.int .i64 r_16)) (.int .i64 r_16) rfl rfl rfl ?_
    refine g_end ?_
    refine e_end ?_
    refine renew [(1, (.ref (.bx 1) 0 [] (.agg [(.int .i64 aG_1.1), (Enc.enc (aG_1.2 : List (Int × Int)))]))), (2, (.bool false)), (4, (Enc.enc (r_4.a : List Int))), (5, (.int .i64 r_4.b)), (6, (.bool r_4.c)), (8, (encO (.at 8 [0]) (m_15 : NL Int))), (12, (.int .i64 r_14.1)), (13, (.int .i64 r_16))] ⟨h1, h2, h4, h5, h6, h8, h12, rfl⟩ ?_
    rintro s ⟨h1, h2, h4, h5, h6, h8, h12, h13⟩
    refine .nsq ?_
    refine .seq ?_
    refine .seq ?_
    refine run_reg ?_
    refine e_end ?_
    refine g_v1 (t := 13) (u := (.int .i64 r_16)) (.int .i64 r_16) h13 rfl rfl ?_
    refine g_v1 (t := 83) (u := (.int .i64 r_16)) (.bool (decide (r_16 < 0))) rfl rfl rfl ?_
    refine g_end ?_
    refine e_end ?_
    refine renew [(1, (.ref (.bx 1) 0 [] (.agg [(.int .i64 aG_1.1), (Enc.enc (aG_1.2 : List (Int × Int)))]))), (2, (.bool false)), (4, (Enc.enc (r_4.a : List Int))), (5, (.int .i64 r_4.b)), (6, (.bool r_4.c)), (8, (encO (.at 8 [0]) (m_15 : NL Int))), (12, (.int .i64 r_14.1)), (13, (.int .i64 r_16)), (84, (.bool (decide (r_16 < 0))))] ⟨h1, h2, h4, h5, h6, h8, h12, h13, rfl⟩ ?_
    rintro s ⟨h1, h2, h4, h5, h6, h8, h12, h13, h84⟩
    refine .nsq ?_
    refine run_cond (t := decide (r_16 < 0)) h84 h (fun h => ?_) (fun h => ?_)
    · refine .seq ?_
      refine run_reg ?_
      refine e_end ?_
      refine g_v0 (.bool false) rfl rfl ?_
      refine g_end ?_
      refine e_end ?_
      refine renew [(1, (.ref (.bx 1) 0 [] (.agg [(.int .i64 aG_1.1), (Enc.enc (aG_1.2 : List (Int × Int)))]))), (2, (.bool false)), (4, (Enc.enc (r_4.a : List Int))), (5, (.int .i64 r_4.b)), (6, (.bool r_4.c)), (8, (encO (.at 8 [0]) (m_15 : NL Int))), (12, (.int .i64 r_14.1)), (13, (.int .i64 r_16))] ⟨h1, rfl, h4, h5, h6, h8, h12, h13⟩ ?_
      rintro s ⟨h1, h2, h4, h5, h6, h8, h12, h13⟩
      refine .nsq ?_
      refine .ret ?_
      have hr := Option.some.inj h
      subst hr
      exact rrA (res_tmp h2) rfl
    · refine .skip ?_
      refine .nsq ?_
      refine .seq ?_
      refine .seq ?_
      refine run_reg ?_
      refine e_end ?_
      refine g_v1 (t := 13) (u := (.int .i64 r_16)) (.int .i64 r_16) h13 rfl rfl ?_
      refine g_v1 (t := 12) (u := (.int .i64 r_14.1)) (.int .i64 r_14.1) h12 rfl rfl ?_
      refine g_v2 (t1 := 85) (t2 := 86) (u1 := (.int .i64 r_16)) (u2 := (.int .i64 r_14.1)) (.bool (r_16 != r_14.1)) rfl rfl rfl rfl ?_
      refine g_end ?_
      refine e_end ?_
      refine renew [(1, (.ref (.bx 1) 0 [] (.agg [(.int .i64 aG_1.1), (Enc.enc (aG_1.2 : List (Int × Int)))]))), (2, (.bool false)), (4, (Enc.enc (r_4.a : List Int))), (5, (.int .i64 r_4.b)), (6, (.bool r_4.c)), (8, (encO (.at 8 [0]) (m_15 : NL Int))), (12, (.int .i64 r_14.1)), (87, (.bool (r_16 != r_14.1)))] ⟨h1, h2, h4, h5, h6, h8, h12, rfl⟩ ?_
      rintro s ⟨h1, h2, h4, h5, h6, h8, h12, h87⟩
      refine .nsq ?_
      refine run_cond (t := (r_16 != r_14.1)) h87 h (fun h => ?_) (fun h => ?_)
      · refine .seq ?_
        refine run_reg ?_
        refine e_end ?_
        refine g_v0 (.bool false) rfl rfl ?_
        refine g_end ?_
        refine e_end ?_
        refine renew [(1, (.ref (.bx 1) 0 [] (.agg [(.int .i64 aG_1.1), (Enc.enc (aG_1.2 : List (Int × Int)))]))), (2, (.bool false)), (4, (Enc.enc (r_4.a : List Int))), (5, (.int .i64 r_4.b)), (6, (.bool r_4.c)), (8, (encO (.at 8 [0]) (m_15 : NL Int))), (12, (.int .i64 r_14.1))] ⟨h1, rfl, h4, h5, h6, h8, h12⟩ ?_
        rintro s ⟨h1, h2, h4, h5, h6, h8, h12⟩
        refine .nsq ?_
        refine .ret ?_
        have hr := Option.some.inj h
        subst hr
        exact rrA (res_tmp h2) rfl
      · refine .skip ?_
        refine .nsq ?_
        refine .seq ?_
        refine run_reg ?_
        refine e_clr ?_
        refine e_end ?_
        refine g_v1 (t := 1) (u := (.ref (.bx 1) 0 [] (.agg [(.int .i64 aG_1.1), (Enc.enc (aG_1.2 : List (Int × Int)))]))) (.agg [(.int .i64 aG_1.1), (Enc.enc (aG_1.2 : List (Int × Int)))]) (keep_clear (s := s) (pk := [91]) h1 rfl (map_bx rfl (map_agg (maps_cons rfl (maps_cons (Enc.map_enc _ (aG_1.2 : List (Int × Int))) maps_nil))))) rfl rfl ?_
        obtain ⟨r_17, E_r_17, h⟩ := bind_some h
        refine g_call (m := 0) (al := true) (r := (Enc.enc (r_17 : (Int × (List (Int × Int)))))) [Enc.enc (aG_1 : (Int × (List (Int × Int))))] (ta_cons (v := (.agg [(.int .i64 aG_1.1), (Enc.enc (aG_1.2 : List (Int × Int)))])) rfl rfl (Enc.erase_enc (aG_1 : (Int × (List (Int × Int))))) ta_nil) (H.c17 _ _ E_r_17) H.g17 (hal_of (ht_cons (v := (.agg [(.int .i64 aG_1.1), (Enc.enc (aG_1.2 : List (Int × Int)))])) rfl rfl rfl ht_nil)) rfl rfl rfl ?_
        obtain ⟨r_18, E_r_18, h⟩ := bind_some h
        refine g_callO (m := 1) (al := false) (r := (.tup [(encO .sh (r_18.a : NL Int)), (Enc.enc (r_18.b : Int)), (Enc.enc (r_18.c : Bool))])) (v := (.tup [(encO (.at 91 [0]) (r_18.a : NL Int)), (.int .i64 r_18.b), (.bool r_18.c)])) (kk := 1000000036) [Enc.enc (r_17 : (Int × (List (Int × Int))))] (ta_cons (v := (.agg [(.int .i64 r_17.1), (Enc.enc (r_17.2 : List (Int × Int)))])) rfl rfl (Enc.erase_enc (r_17 : (Int × (List (Int × Int))))) ta_nil) (H.c36o _ _ E_r_18) H.g36o rfl (toks_tup (tokss_cons toks_encS (tokss_cons rfl (tokss_cons rfl tokss_nil)))) (tag_tup (tags_cons tag_encO (tags_cons rfl (tags_cons rfl tags_nil)))) rfl (gone_clear (s := s) (pk := [91]) (t := 91) rfl) ?_
        refine g_v1 (t := 91) (u := (.tup [(encO (.at 91 [0]) (r_18.a : NL Int)), (.int .i64 r_18.b), (.bool r_18.c)])) (.tup [(encO (.at 91 [0]) (r_18.a : NL Int)), (.int .i64 r_18.b), (.bool r_18.c)]) rfl rfl rfl ?_
        refine g_v (encO (.at 91 [0]) (r_18.a : NL Int)) (ev_extN (v := (encO (.at 91 [0]) (r_18.a : NL Int))) rfl rfl ok_encP) ?_
        refine g_v1 (t := 88) (u := (.tup [(encO (.at 91 [0]) (r_18.a : NL Int)), (.int .i64 r_18.b), (.bool r_18.c)])) (.int .i64 r_18.b) rfl rfl rfl ?_
        refine g_v1 (t := 88) (u := (.tup [(encO (.at 91 [0]) (r_18.a : NL Int)), (.int .i64 r_18.b), (.bool r_18.c)])) (.bool r_18.c) rfl rfl rfl ?_
        refine g_v (encO (.at 91 [0]) (r_18.a : NL Int)) (ev_mov rfl ok_encO) ?_
        refine g_v1 (t := 93) (u := (.int .i64 r_18.b)) (.int .i64 r_18.b) rfl rfl rfl ?_
        refine g_v1 (t := 94) (u := (.bool r_18.c)) (.bool r_18.c) rfl rfl rfl ?_
        refine g_end ?_
        refine e_home (r := 91) (x := 14) (v := (encO (.at 91 [0]) (r_18.a : NL Int))) (by exact rfl) ok_encO (fun s_8 hg_8 => ?_)
        refine e_end ?_
        refine renew [(2, (.bool false)), (4, (Enc.enc (r_4.a : List Int))), (5, (.int .i64 r_4.b)), (6, (.bool r_4.c)), (8, (encO (.at 8 [0]) (m_15 : NL Int))), (12, (.int .i64 r_14.1)), (14, (encO (.at 14 [0]) (r_18.a : NL Int))), (15, (.int .i64 r_18.b)), (16, (.bool r_18.c))] ⟨(hg_8 2 (.bool false) (.bool false) (keep_clear (s := s) (pk := [91]) h2 rfl rfl) rfl), (hg_8 4 (Enc.enc (r_4.a : List Int)) (Enc.enc (r_4.a : List Int)) (keep_clear (s := s) (pk := [91]) h4 rfl (Enc.map_enc _ (r_4.a : List Int))) (Enc.map_enc _ (r_4.a : List Int))), (hg_8 5 (.int .i64 r_4.b) (.int .i64 r_4.b) (keep_clear (s := s) (pk := [91]) h5 rfl rfl) rfl), (hg_8 6 (.bool r_4.c) (.bool r_4.c) (keep_clear (s := s) (pk := [91]) h6 rfl rfl) rfl), (hg_8 8 (encO (.at 8 [0]) (m_15 : NL Int)) (encO (.at 8 [0]) (m_15 : NL Int)) (keep_clear (s := s) (pk := [91]) h8 rfl (map_encO (r := 8) (p := [0]) rfl rfl)) (map_encO (r := 8) (p := [0]) rfl rfl)), (hg_8 12 (.int .i64 r_14.1) (.int .i64 r_14.1) (keep_clear (s := s) (pk := [91]) h12 rfl rfl) rfl), (hg_8 14 (encO (.at 91 [0]) (r_18.a : NL Int)) (encO (.at 14 [0]) (r_18.a : NL Int)) rfl (map_encO (r := 91) (p := [0]) rfl rfl)), (hg_8 15 (.int .i64 r_18.b) (.int .i64 r_18.b) rfl rfl), (hg_8 16 (.bool r_18.c) (.bool r_18.c) rfl rfl)⟩ ?_
        rintro s ⟨h2, h4, h5, h6, h8, h12, h14, h15, h16⟩
        refine .nsq ?_
        refine .seq ?_
        refine .seq ?_
        refine run_reg ?_
        refine e_end ?_
        refine g_v (encO (.at 14 [0]) (r_18.a : NL Int)) (ev_mov h14 ok_encO) ?_
        refine g_v1 (t := 4) (u := (Enc.enc (r_4.a : List Int))) (Enc.enc (r_4.a : List Int)) h4 rfl rfl ?_
        obtain ⟨r_22, E_r_22, h⟩ := bind_some h
        refine g_call (m := 0) (al := false) (r := (Enc.enc (r_22 : Bool))) [Enc.enc (r_18.a.list : (List Int)), Enc.enc (r_4.a : (List Int))] (ta_cons (v := (encO (.at 14 [0]) (r_18.a : NL Int))) rfl ok_encP (erase_encO (o := r_18.a)) (ta_cons (v := (Enc.enc (r_4.a : List Int))) rfl rfl (Enc.erase_enc (r_4.a : (List Int))) ta_nil)) (H.c19 _ _ _ E_r_22) H.g19 rfl rfl rfl rfl ?_
        refine g_v1 (t := 97) (u := (.bool r_22)) (.bool (!r_22)) rfl rfl rfl ?_
        refine g_v1 (t := 98) (u := (.bool (!r_22))) (.bool (!r_22)) rfl rfl rfl ?_
        refine split_on (c := (!r_22)) h (fun hg5 h => ?_) (fun hg5 h => ?_)
        · refine g_no (Eq.trans (b := .bool (!r_22)) rfl (congrArg V.bool hg5)) ?_
          refine g_no (Eq.trans (b := .bool (!r_22)) rfl (congrArg V.bool hg5)) ?_
          refine g_no (Eq.trans (b := .bool (!r_22)) rfl (congrArg V.bool hg5)) ?_
          refine g_v2 (t1 := 99) (t2 := 102) (u1 := (.bool true)) (u2 := (.tup [])) (.bool true) (Eq.trans (b := .bool (!r_22)) rfl (congrArg V.bool hg5)) rfl rfl rfl ?_
          refine g_v1 (t := 103) (u := (.bool true)) (.bool true) rfl rfl rfl ?_
          refine g_no rfl ?_
          refine g_no rfl ?_
          refine g_no rfl ?_
          refine g_v2 (t1 := 104) (t2 := 107) (u1 := (.bool true)) (u2 := (.tup [])) (.bool true) rfl rfl rfl rfl ?_
          refine g_end ?_
          refine e_end ?_
          refine renew [(2, (.bool false)), (8, (encO (.at 8 [0]) (m_15 : NL Int))), (12, (.int .i64 r_14.1)), (108, (.bool true))] ⟨h2, h8, h12, rfl⟩ ?_
          rintro s ⟨h2, h8, h12, h108⟩
          exact t_f9_j1 H m_15 r_14 true _ ⟨h2, h8, h12, h108⟩ h
        · refine g_yes (Eq.trans (b := .bool (!r_22)) rfl (congrArg V.bool hg5)) (g_v1 (t := 15) (u := (.int .i64 r_18.b)) (.int .i64 r_18.b) h15 rfl rfl ?_)
          refine g_yes (Eq.trans (b := .bool (!r_22)) rfl (congrArg V.bool hg5)) (g_v1 (t := 5) (u := (.int .i64 r_4.b)) (.int .i64 r_4.b) h5 rfl rfl ?_)
          refine g_yes (Eq.trans (b := .bool (!r_22)) rfl (congrArg V.bool hg5)) (g_v2 (t1 := 100) (t2 := 101) (u1 := (.int .i64 r_18.b)) (u2 := (.int .i64 r_4.b)) (.bool (r_18.b != r_4.b)) rfl rfl rfl rfl ?_)
          refine g_v2 (t1 := 99) (t2 := 102) (u1 := (.bool false)) (u2 := (.bool (r_18.b != r_4.b))) (.bool (r_18.b != r_4.b)) (Eq.trans (b := .bool (!r_22)) rfl (congrArg V.bool hg5)) rfl rfl rfl ?_
          refine g_v1 (t := 103) (u := (.bool (r_18.b != r_4.b))) (.bool (r_18.b != r_4.b)) rfl rfl rfl ?_
          refine split_on (c := (r_18.b != r_4.b)) h (fun hg10 h => ?_) (fun hg10 h => ?_)
          · refine g_no (Eq.trans (b := .bool (r_18.b != r_4.b)) rfl (congrArg V.bool hg10)) ?_
            refine g_no (Eq.trans (b := .bool (r_18.b != r_4.b)) rfl (congrArg V.bool hg10)) ?_
            refine g_no (Eq.trans (b := .bool (r_18.b != r_4.b)) rfl (congrArg V.bool hg10)) ?_
            refine g_v2 (t1 := 104) (t2 := 107) (u1 := (.bool true)) (u2 := (.tup [])) (.bool true) (Eq.trans (b := .bool (r_18.b != r_4.b)) rfl (congrArg V.bool hg10)) rfl rfl rfl ?_
            refine g_end ?_
            refine e_end ?_
            refine renew [(2, (.bool false)), (8, (encO (.at 8 [0]) (m_15 : NL Int))), (12, (.int .i64 r_14.1)), (108, (.bool true))] ⟨h2, h8, h12, rfl⟩ ?_
            rintro s ⟨h2, h8, h12, h108⟩
            exact t_f9_j1 H m_15 r_14 true _ ⟨h2, h8, h12, h108⟩ h
          · refine g_yes (Eq.trans (b := .bool (r_18.b != r_4.b)) rfl (congrArg V.bool hg10)) (g_v1 (t := 16) (u := (.bool r_18.c)) (.bool r_18.c) h16 rfl rfl ?_)
            refine g_yes (Eq.trans (b := .bool (r_18.b != r_4.b)) rfl (congrArg V.bool hg10)) (g_v1 (t := 6) (u := (.bool r_4.c)) (.bool r_4.c) h6 rfl rfl ?_)
            refine g_yes (Eq.trans (b := .bool (r_18.b != r_4.b)) rfl (congrArg V.bool hg10)) (g_v2 (t1 := 105) (t2 := 106) (u1 := (.bool r_18.c)) (u2 := (.bool r_4.c)) (.bool (r_18.c != r_4.c)) rfl rfl rfl rfl ?_)
            refine g_v2 (t1 := 104) (t2 := 107) (u1 := (.bool false)) (u2 := (.bool (r_18.c != r_4.c))) (.bool (r_18.c != r_4.c)) (Eq.trans (b := .bool (r_18.b != r_4.b)) rfl (congrArg V.bool hg10)) rfl rfl rfl ?_
            refine g_end ?_
            refine e_end ?_
            refine renew [(2, (.bool false)), (8, (encO (.at 8 [0]) (m_15 : NL Int))), (12, (.int .i64 r_14.1)), (108, (.bool (r_18.c != r_4.c)))] ⟨h2, h8, h12, rfl⟩ ?_
            rintro s ⟨h2, h8, h12, h108⟩
            exact t_f9_j1 H m_15 r_14 (r_18.c != r_4.c) _ ⟨h2, h8, h12, h108⟩ h
def w_FnExactLeastBandwidth_j3 (F : Nat) (aG_1 : (Int × (List (Int × Int)))) (r_4 : (S3 (List Int) Int Bool)) (r_5 : (Int × (NL (Int × Int)))) (r_6 : (S3 (NL Int) Int Bool))  (t50_8 : Bool) : Option Bool :=
  bif t50_8 then
    some false
  else
    (w_toGraph F aG_1).bind fun r_9 =>
    (w_eqGraph F (r_5.1, r_5.2.list) r_9).bind fun r_10 =>
    bif (!r_10) then
      some false
    else
      (w_markGraph F (Og.mk r_5.1 r_5.2 : (Og (Int × Int))) 1).bind fun r_11 =>
      bif decide (r_11 < 0) then
        w_FnExactLeastBandwidth_j2 F aG_1 r_4 r_6 true
      else
        (w_eqIntS F r_6.a.list r_4.a).bind fun r_23 =>
        bif (!r_23) then
          w_FnExactLeastBandwidth_j2 F aG_1 r_4 r_6 true
        else
          bif (r_6.b != r_4.b) then
            w_FnExactLeastBandwidth_j2 F aG_1 r_4 r_6 true
          else
            w_FnExactLeastBandwidth_j2 F aG_1 r_4 r_6 (r_6.c != r_4.c)
theorem t_f9_j3 (H : H9 D σ F) (aG_1 : (Int × (List (Int × Int)))) (r_4 : (S3 (List Int) Int Bool)) (r_5 : (Int × (NL (Int × Int)))) (r_6 : (S3 (NL Int) Int Bool))  (t50_8 : Bool) (s : Nat → V) (hs : Facts [(1, (.ref (.bx 1) 0 [] (.agg [(.int .i64 aG_1.1), (Enc.enc (aG_1.2 : List (Int × Int)))]))), (2, (.bool false)), (4, (Enc.enc (r_4.a : List Int))), (5, (.int .i64 r_4.b)), (6, (.bool r_4.c)), (7, (.ref (.bx 7) 0 [] (.agg [(.int .i64 r_5.1), (encO (.at 30 [1]) (r_5.2 : NL (Int × Int)))]))), (8, (encO (.at 8 [0]) (r_6.a : NL Int))), (9, (.int .i64 r_6.b)), (10, (.bool r_6.c)), (50, (.bool t50_8))] s) (h : w_FnExactLeastBandwidth_j3 F aG_1 r_4 r_5 r_6  t50_8 = some r) : Run D σ (R9 r) (.nrm [.sq A9_20, .sq A9_21]) s := by
  unfold w_FnExactLeastBandwidth_j3 at h
  obtain ⟨h1, h2, h4, h5, h6, h7, h8, h9, h10, h50⟩ := hs
  refine .nsq ?_
  refine run_cond (t := t50_8) h50 h (fun h => ?_) (fun h => ?_)
  · refine .seq ?_
    refine run_reg ?_
    refine e_end ?_
    refine g_v0 (.bool false) rfl rfl ?_
    refine g_end ?_
    refine e_end ?_
    refine renew [(1, (.ref (.bx 1) 0 [] (.agg [(.int .i64 aG_1.1), (Enc.enc (aG_1.2 : List (Int × Int)))]))), (2, (.bool false)), (4, (Enc.enc (r_4.a : List Int))), (5, (.int .i64 r_4.b)), (6, (.bool r_4.c)), (7, (.ref (.bx 7) 0 [] (.agg [(.int .i64 r_5.1), (encO (.at 30 [1]) (r_5.2 : NL (Int × Int)))]))), (8, (encO (.at 8 [0]) (r_6.a : NL Int))), (9, (.int .i64 r_6.b)), (10, (.bool r_6.c))] ⟨h1, rfl, h4, h5, h6, h7, h8, h9, h10⟩ ?_
    rintro s ⟨h1, h2, h4, h5, h6, h7, h8, h9, h10⟩
    refine .nsq ?_
    refine .ret ?_
    have hr := Option.some.inj h
    subst hr
    exact rrA (res_tmp h2) rfl
  · refine .skip ?_
    refine .nsq ?_
    refine .seq ?_
    refine .seq ?_
    refine run_reg ?_
    refine e_end ?_
    refine g_v (.agg [(.int .i64 r_5.1), (encO (.at 30 [1]) (r_5.2 : NL (Int × Int)))]) (ev_loadN (c := (.agg [(.int .i64 r_5.1), (encO (.at 30 [1]) (r_5.2 : NL (Int × Int)))])) h7 (by simp [V.shape, V.shapes, shape_encP, Sh.beq, Sh.beqs])) ?_
    refine g_v1 (t := 1) (u := (.ref (.bx 1) 0 [] (.agg [(.int .i64 aG_1.1), (Enc.enc (aG_1.2 : List (Int × Int)))]))) (.agg [(.int .i64 aG_1.1), (Enc.enc (aG_1.2 : List (Int × Int)))]) h1 rfl rfl ?_
    obtain ⟨r_9, E_r_9, h⟩ := bind_some h
    refine g_call (m := 0) (al := true) (r := (Enc.enc (r_9 : (Int × (List (Int × Int)))))) [Enc.enc (aG_1 : (Int × (List (Int × Int))))] (ta_cons (v := (.agg [(.int .i64 aG_1.1), (Enc.enc (aG_1.2 : List (Int × Int)))])) rfl rfl (Enc.erase_enc (aG_1 : (Int × (List (Int × Int))))) ta_nil) (H.c17 _ _ E_r_9) H.g17 (hal_of (ht_cons (v := (.agg [(.int .i64 aG_1.1), (Enc.enc (aG_1.2 : List (Int × Int)))])) rfl rfl rfl ht_nil)) rfl rfl rfl ?_
    obtain ⟨r_10, E_r_10, h⟩ := bind_some h
    refine g_call (m := 0) (al := false) (r := (Enc.enc (r_10 : Bool))) [Enc.enc ((r_5.1, r_5.2.list) : (Int × (List (Int × Int)))), Enc.enc (r_9 : (Int × (List (Int × Int))))] (ta_cons (v := (.agg [(.int .i64 r_5.1), (encO (.at 30 [1]) (r_5.2 : NL (Int × Int)))])) rfl rfl (erase_agg (erases_cons rfl (erases_cons (erase_encO (o := r_5.2)) erases_nil))) (ta_cons (v := (.agg [(.int .i64 r_9.1), (Enc.enc (r_9.2 : List (Int × Int)))])) rfl rfl (Enc.erase_enc (r_9 : (Int × (List (Int × Int))))) ta_nil)) (H.c20 _ _ _ E_r_10) H.g20 rfl rfl rfl rfl ?_
    refine g_v1 (t := 54) (u := (.bool r_10)) (.bool (!r_10)) rfl rfl rfl ?_
    refine g_end ?_
    refine e_end ?_
    refine renew [(1, (.ref (.bx 1) 0 [] (.agg [(.int .i64 aG_1.1), (Enc.enc (aG_1.2 : List (Int × Int)))]))), (2, (.bool false)), (4, (Enc.enc (r_4.a : List Int))), (5, (.int .i64 r_4.b)), (6, (.bool r_4.c)), (7, (.ref (.bx 7) 0 [] (.agg [(.int .i64 r_5.1), (encO (.at 30 [1]) (r_5.2 : NL (Int × Int)))]))), (8, (encO (.at 8 [0]) (r_6.a : NL Int))), (9, (.int .i64 r_6.b)), (10, (.bool r_6.c)), (55, (.bool (!r_10)))] ⟨h1, h2, h4, h5, h6, h7, h8, h9, h10, rfl⟩ ?_
    rintro s ⟨h1, h2, h4, h5, h6, h7, h8, h9, h10, h55⟩
    refine .nsq ?_
    refine run_cond (t := (!r_10)) h55 h (fun h => ?_) (fun h => ?_)
    · refine .seq ?_
      refine run_reg ?_
      refine e_end ?_
      refine g_v0 (.bool false) rfl rfl ?_
      refine g_end ?_
      refine e_end ?_
      refine renew [(1, (.ref (.bx 1) 0 [] (.agg [(.int .i64 aG_1.1), (Enc.enc (aG_1.2 : List (Int × Int)))]))), (2, (.bool false)), (4, (Enc.enc (r_4.a : List Int))), (5, (.int .i64 r_4.b)), (6, (.bool r_4.c)), (7, (.ref (.bx 7) 0 [] (.agg [(.int .i64 r_5.1), (encO (.at 30 [1]) (r_5.2 : NL (Int × Int)))]))), (8, (encO (.at 8 [0]) (r_6.a : NL Int))), (9, (.int .i64 r_6.b)), (10, (.bool r_6.c))] ⟨h1, rfl, h4, h5, h6, h7, h8, h9, h10⟩ ?_
      rintro s ⟨h1, h2, h4, h5, h6, h7, h8, h9, h10⟩
      refine .nsq ?_
      refine .ret ?_
      have hr := Option.some.inj h
      subst hr
      exact rrA (res_tmp h2) rfl
    · refine .skip ?_
      refine .nsq ?_
      refine .seq ?_
      refine run_reg ?_
      refine e_end ?_
      refine g_v0 (.int .i64 1) rfl rfl ?_
      refine g_end ?_
      refine e_end ?_
      refine renew [(1, (.ref (.bx 1) 0 [] (.agg [(.int .i64 aG_1.1), (Enc.enc (aG_1.2 : List (Int × Int)))]))), (2, (.bool false)), (4, (Enc.enc (r_4.a : List Int))), (5, (.int .i64 r_4.b)), (6, (.bool r_4.c)), (7, (.ref (.bx 7) 0 [] (.agg [(.int .i64 r_5.1), (encO (.at 30 [1]) (r_5.2 : NL (Int × Int)))]))), (8, (encO (.at 8 [0]) (r_6.a : NL Int))), (9, (.int .i64 r_6.b)), (10, (.bool r_6.c)), (11, (.int .i64 1))] ⟨h1, h2, h4, h5, h6, h7, h8, h9, h10, rfl⟩ ?_
      rintro s ⟨h1, h2, h4, h5, h6, h7, h8, h9, h10, h11⟩
      refine .nsq ?_
      refine .seq ?_
      refine run_reg ?_
      refine e_end ?_
      refine g_v (.agg [(.int .i64 r_5.1), (encO (.at 30 [1]) (r_5.2 : NL (Int × Int)))]) (ev_loadN (c := (.agg [(.int .i64 r_5.1), (encO (.at 30 [1]) (r_5.2 : NL (Int × Int)))])) h7 (by simp [V.shape, V.shapes, shape_encP, Sh.beq, Sh.beqs])) ?_
      refine g_v1 (t := 11) (u := (.int .i64 1)) (.int .i64 1) h11 rfl rfl ?_
      obtain ⟨r_11, E_r_11, h⟩ := bind_some h
      refine g_mark (v := (.agg [(.int .i64 r_5.1), (encO (.at 30 [1]) (r_5.2 : NL (Int × Int)))])) rfl (canon_agg (a := r_5.1) (o := (r_5.2 : NL (Int × Int))) rfl) (rdAll_cons (v := (.int .i64 1)) rfl rfl rdAll_nil) (H.c21 _ _ _ E_r_11) H.g21 rfl rfl (fun s_5 hm_5 => ?_)
      refine g_v1 (t := 58) (u := (.int .i64 r_11)) (.int .i64 r_11) rfl rfl rfl ?_
      refine g_end ?_
      refine e_end ?_
      refine renew [(1, (.ref (.bx 1) 0 [] (.agg [(.int .i64 aG_1.1), (Enc.enc (aG_1.2 : List (Int × Int)))]))), (2, (.bool false)), (4, (Enc.enc (r_4.a : List Int))), (5, (.int .i64 r_4.b)), (6, (.bool r_4.c)), (8, (encO (.at 8 [0]) (r_6.a : NL Int))), (9, (.int .i64 r_6.b)), (10, (.bool r_6.c)), (11, (.int .i64 r_11))] ⟨(show s_5 1 = (.ref (.bx 1) 0 [] (.agg [(.int .i64 aG_1.1), (Enc.enc (aG_1.2 : List (Int × Int)))])) from hm_5 1 (.ref (.bx 1) 0 [] (.agg [(.int .i64 aG_1.1), (Enc.enc (aG_1.2 : List (Int × Int)))])) (.ref (.bx 1) 0 [] (.agg [(.int .i64 aG_1.1), (Enc.enc (aG_1.2 : List (Int × Int)))])) h1 (rem_map rfl (map_bx (killO_ne rfl) (map_agg (maps_cons rfl (maps_cons (Enc.map_enc _ (aG_1.2 : List (Int × Int))) maps_nil)))))), (show s_5 2 = (.bool false) from hm_5 2 (.bool false) (.bool false) h2 (rem_map rfl rfl)), (show s_5 4 = (Enc.enc (r_4.a : List Int)) from hm_5 4 (Enc.enc (r_4.a : List Int)) (Enc.enc (r_4.a : List Int)) h4 (rem_enc (xs := (r_4.a : List Int)))), (show s_5 5 = (.int .i64 r_4.b) from hm_5 5 (.int .i64 r_4.b) (.int .i64 r_4.b) h5 (rem_map rfl rfl)), (show s_5 6 = (.bool r_4.c) from hm_5 6 (.bool r_4.c) (.bool r_4.c) h6 (rem_map rfl rfl)), (show s_5 8 = (encO (.at 8 [0]) (r_6.a : NL Int)) from hm_5 8 (encO (.at 8 [0]) (r_6.a : NL Int)) (encO (.at 8 [0]) (r_6.a : NL Int)) h8 (rem_own (r := 8) (p := [0]) (o := (r_6.a : NL Int)) rfl rfl)), (show s_5 9 = (.int .i64 r_6.b) from hm_5 9 (.int .i64 r_6.b) (.int .i64 r_6.b) h9 (rem_map rfl rfl)), (show s_5 10 = (.bool r_6.c) from hm_5 10 (.bool r_6.c) (.bool r_6.c) h10 (rem_map rfl rfl)), rfl⟩ ?_
      rintro s ⟨h1, h2, h4, h5, h6, h8, h9, h10, h11⟩
      refine .nsq ?_
      refine .seq ?_
      refine .seq ?_
      refine run_reg ?_
      refine e_end ?_
      refine g_v1 (t := 11) (u := (.int .i64 r_11)) (.int .i64 r_11) h11 rfl rfl ?_
      refine g_v1 (t := 59) (u := (.int .i64 r_11)) (.bool (decide (r_11 < 0))) rfl rfl rfl ?_
      refine g_v1 (t := 60) (u := (.bool (decide (r_11 < 0)))) (.bool (decide (r_11 < 0))) rfl rfl rfl ?_
      refine split_on (c := decide (r_11 < 0)) h (fun hg3 h => ?_) (fun hg3 h => ?_)
      · refine g_no (Eq.trans (b := .bool (decide (r_11 < 0))) rfl (congrArg V.bool hg3)) ?_
        refine g_no (Eq.trans (b := .bool (decide (r_11 < 0))) rfl (congrArg V.bool hg3)) ?_
        refine g_no (Eq.trans (b := .bool (decide (r_11 < 0))) rfl (congrArg V.bool hg3)) ?_
        refine g_no (Eq.trans (b := .bool (decide (r_11 < 0))) rfl (congrArg V.bool hg3)) ?_
        refine g_v2 (t1 := 61) (t2 := 65) (u1 := (.bool true)) (u2 := (.tup [])) (.bool true) (Eq.trans (b := .bool (decide (r_11 < 0))) rfl (congrArg V.bool hg3)) rfl rfl rfl ?_
        refine g_v1 (t := 66) (u := (.bool true)) (.bool true) rfl rfl rfl ?_
        refine g_no rfl ?_
        refine g_no rfl ?_
        refine g_no rfl ?_
        refine g_v2 (t1 := 67) (t2 := 70) (u1 := (.bool true)) (u2 := (.tup [])) (.bool true) rfl rfl rfl rfl ?_
        refine g_v1 (t := 71) (u := (.bool true)) (.bool true) rfl rfl rfl ?_
        refine g_no rfl ?_
        refine g_no rfl ?_
        refine g_no rfl ?_
        refine g_v2 (t1 := 72) (t2 := 75) (u1 := (.bool true)) (u2 := (.tup [])) (.bool true) rfl rfl rfl rfl ?_
        refine g_end ?_
        refine e_end ?_
        refine renew [(1, (.ref (.bx 1) 0 [] (.agg [(.int .i64 aG_1.1), (Enc.enc (aG_1.2 : List (Int × Int)))]))), (2, (.bool false)), (4, (Enc.enc (r_4.a : List Int))), (5, (.int .i64 r_4.b)), (6, (.bool r_4.c)), (8, (encO (.at 8 [0]) (r_6.a : NL Int))), (76, (.bool true))] ⟨h1, h2, h4, h5, h6, h8, rfl⟩ ?_
        rintro s ⟨h1, h2, h4, h5, h6, h8, h76⟩
        exact t_f9_j2 H aG_1 r_4 r_6 true _ ⟨h1, h2, h4, h5, h6, h8, h76⟩ h
      · refine g_yes (Eq.trans (b := .bool (decide (r_11 < 0))) rfl (congrArg V.bool hg3)) (g_v (encO (.at 8 [0]) (r_6.a : NL Int)) (ev_mov h8 ok_encO) ?_)
        refine g_yes (Eq.trans (b := .bool (decide (r_11 < 0))) rfl (congrArg V.bool hg3)) (g_v1 (t := 4) (u := (Enc.enc (r_4.a : List Int))) (Enc.enc (r_4.a : List Int)) h4 rfl rfl ?_)
        obtain ⟨r_23, E_r_23, h⟩ := bind_some h
        refine g_yes (Eq.trans (b := .bool (decide (r_11 < 0))) rfl (congrArg V.bool hg3)) (g_call (m := 0) (al := false) (r := (Enc.enc (r_23 : Bool))) [Enc.enc (r_6.a.list : (List Int)), Enc.enc (r_4.a : (List Int))] (ta_cons (v := (encO (.at 8 [0]) (r_6.a : NL Int))) rfl ok_encP (erase_encO (o := r_6.a)) (ta_cons (v := (Enc.enc (r_4.a : List Int))) rfl rfl (Enc.erase_enc (r_4.a : (List Int))) ta_nil)) (H.c19 _ _ _ E_r_23) H.g19 rfl rfl rfl rfl ?_)
        refine g_yes (Eq.trans (b := .bool (decide (r_11 < 0))) rfl (congrArg V.bool hg3)) (g_v1 (t := 64) (u := (.bool r_23)) (.bool (!r_23)) rfl rfl rfl ?_)
        refine g_v2 (t1 := 61) (t2 := 65) (u1 := (.bool false)) (u2 := (.bool (!r_23))) (.bool (!r_23)) (Eq.trans (b := .bool (decide (r_11 < 0))) rfl (congrArg V.bool hg3)) rfl rfl rfl ?_
        refine g_v1 (t := 66) (u := (.bool (!r_23))) (.bool (!r_23)) rfl rfl rfl ?_
        refine split_on (c := (!r_23)) h (fun hg9 h => ?_) (fun hg9 h => ?_)
        · refine g_no (Eq.trans (b := .bool (!r_23)) rfl (congrArg V.bool hg9)) ?_
          refine g_no (Eq.trans (b := .bool (!r_23)) rfl (congrArg V.bool hg9)) ?_
          refine g_no (Eq.trans (b := .bool (!r_23)) rfl (congrArg V.bool hg9)) ?_
          refine g_v2 (t1 := 67) (t2 := 70) (u1 := (.bool true)) (u2 := (.tup [])) (.bool true) (Eq.trans (b := .bool (!r_23)) rfl (congrArg V.bool hg9)) rfl rfl rfl ?_
          refine g_v1 (t := 71) (u := (.bool true)) (.bool true) rfl rfl rfl ?_
          refine g_no rfl ?_
          refine g_no rfl ?_
          refine g_no rfl ?_
          refine g_v2 (t1 := 72) (t2 := 75) (u1 := (.bool true)) (u2 := (.tup [])) (.bool true) rfl rfl rfl rfl ?_
          refine g_end ?_
          refine e_end ?_
          refine renew [(1, (.ref (.bx 1) 0 [] (.agg [(.int .i64 aG_1.1), (Enc.enc (aG_1.2 : List (Int × Int)))]))), (2, (.bool false)), (4, (Enc.enc (r_4.a : List Int))), (5, (.int .i64 r_4.b)), (6, (.bool r_4.c)), (8, (encO (.at 8 [0]) (r_6.a : NL Int))), (76, (.bool true))] ⟨h1, h2, h4, h5, h6, h8, rfl⟩ ?_
          rintro s ⟨h1, h2, h4, h5, h6, h8, h76⟩
          exact t_f9_j2 H aG_1 r_4 r_6 true _ ⟨h1, h2, h4, h5, h6, h8, h76⟩ h
        · refine g_yes (Eq.trans (b := .bool (!r_23)) rfl (congrArg V.bool hg9)) (g_v1 (t := 9) (u := (.int .i64 r_6.b)) (.int .i64 r_6.b) h9 rfl rfl ?_)
          refine g_yes (Eq.trans (b := .bool (!r_23)) rfl (congrArg V.bool hg9)) (g_v1 (t := 5) (u := (.int .i64 r_4.b)) (.int .i64 r_4.b) h5 rfl rfl ?_)
          refine g_yes (Eq.trans (b := .bool (!r_23)) rfl (congrArg V.bool hg9)) (g_v2 (t1 := 68) (t2 := 69) (u1 := (.int .i64 r_6.b)) (u2 := (.int .i64 r_4.b)) (.bool (r_6.b != r_4.b)) rfl rfl rfl rfl ?_)
          refine g_v2 (t1 := 67) (t2 := 70) (u1 := (.bool false)) (u2 := (.bool (r_6.b != r_4.b))) (.bool (r_6.b != r_4.b)) (Eq.trans (b := .bool (!r_23)) rfl (congrArg V.bool hg9)) rfl rfl rfl ?_
          refine g_v1 (t := 71) (u := (.bool (r_6.b != r_4.b))) (.bool (r_6.b != r_4.b)) rfl rfl rfl ?_
          refine split_on (c := (r_6.b != r_4.b)) h (fun hg14 h => ?_) (fun hg14 h => ?_)
          · refine g_no (Eq.trans (b := .bool (r_6.b != r_4.b)) rfl (congrArg V.bool hg14)) ?_
            refine g_no (Eq.trans (b := .bool (r_6.b != r_4.b)) rfl (congrArg V.bool hg14)) ?_
            refine g_no (Eq.trans (b := .bool (r_6.b != r_4.b)) rfl (congrArg V.bool hg14)) ?_
            refine g_v2 (t1 := 72) (t2 := 75) (u1 := (.bool true)) (u2 := (.tup [])) (.bool true) (Eq.trans (b := .bool (r_6.b != r_4.b)) rfl (congrArg V.bool hg14)) rfl rfl rfl ?_
            refine g_end ?_
            refine e_end ?_
            refine renew [(1, (.ref (.bx 1) 0 [] (.agg [(.int .i64 aG_1.1), (Enc.enc (aG_1.2 : List (Int × Int)))]))), (2, (.bool false)), (4, (Enc.enc (r_4.a : List Int))), (5, (.int .i64 r_4.b)), (6, (.bool r_4.c)), (8, (encO (.at 8 [0]) (r_6.a : NL Int))), (76, (.bool true))] ⟨h1, h2, h4, h5, h6, h8, rfl⟩ ?_
            rintro s ⟨h1, h2, h4, h5, h6, h8, h76⟩
            exact t_f9_j2 H aG_1 r_4 r_6 true _ ⟨h1, h2, h4, h5, h6, h8, h76⟩ h
          · refine g_yes (Eq.trans (b := .bool (r_6.b != r_4.b)) rfl (congrArg V.bool hg14)) (g_v1 (t := 10) (u := (.bool r_6.c)) (.bool r_6.c) h10 rfl rfl ?_)
            refine g_yes (Eq.trans (b := .bool (r_6.b != r_4.b)) rfl (congrArg V.bool hg14)) (g_v1 (t := 6) (u := (.bool r_4.c)) (.bool r_4.c) h6 rfl rfl ?_)
            refine g_yes (Eq.trans (b := .bool (r_6.b != r_4.b)) rfl (congrArg V.bool hg14)) (g_v2 (t1 := 73) (t2 := 74) (u1 := (.bool r_6.c)) (u2 := (.bool r_4.c)) (.bool (r_6.c != r_4.c)) rfl rfl rfl rfl ?_)
            refine g_v2 (t1 := 72) (t2 := 75) (u1 := (.bool false)) (u2 := (.bool (r_6.c != r_4.c))) (.bool (r_6.c != r_4.c)) (Eq.trans (b := .bool (r_6.b != r_4.b)) rfl (congrArg V.bool hg14)) rfl rfl rfl ?_
            refine g_end ?_
            refine e_end ?_
            refine renew [(1, (.ref (.bx 1) 0 [] (.agg [(.int .i64 aG_1.1), (Enc.enc (aG_1.2 : List (Int × Int)))]))), (2, (.bool false)), (4, (Enc.enc (r_4.a : List Int))), (5, (.int .i64 r_4.b)), (6, (.bool r_4.c)), (8, (encO (.at 8 [0]) (r_6.a : NL Int))), (76, (.bool (r_6.c != r_4.c)))] ⟨h1, h2, h4, h5, h6, h8, rfl⟩ ?_
            rintro s ⟨h1, h2, h4, h5, h6, h8, h76⟩
            exact t_f9_j2 H aG_1 r_4 r_6 (r_6.c != r_4.c) _ ⟨h1, h2, h4, h5, h6, h8, h76⟩ h
def w_FnExactLeastBandwidth (F : Nat) (aG_1 : (Int × (List (Int × Int)))) : Option Bool :=
  (w_szGraph F aG_1 1048576).bind fun r_2 =>
  bif decide (r_2 < 0) then
    some true
  else
    (w_toGraph F aG_1).bind fun r_3 =>
    (s_LeastBandwidth F r_3).bind fun r_4 =>
    (w_toGraph_o F aG_1).bind fun r_5 =>
    (i_LeastBandwidth_o F (r_5.1, r_5.2.list)).bind fun r_6 =>
    (w_eqIntS F r_6.a.list r_4.a).bind fun r_24 =>
    bif (!r_24) then
      w_FnExactLeastBandwidth_j3 F aG_1 r_4 r_5 r_6 true
    else
      bif (r_6.b != r_4.b) then
        w_FnExactLeastBandwidth_j3 F aG_1 r_4 r_5 r_6 true
      else
        w_FnExactLeastBandwidth_j3 F aG_1 r_4 r_5 r_6 (r_6.c != r_4.c)
theorem t9 (H : H9 D σ F) (aG_1 : (Int × (List (Int × Int)))) (s : Nat → V) (hs : Facts [(0, (.agg [(.int .i64 aG_1.1), (Enc.enc (aG_1.2 : List (Int × Int)))]))] s) (h : w_FnExactLeastBandwidth F aG_1 = some r) : Run D σ (R9 r) (.run A9 []) s := by
  unfold w_FnExactLeastBandwidth at h
  have h0 := hs
  refine .seq ?_
  refine run_reg ?_
  refine e_clr ?_
  refine e_end ?_
  refine g_box (.agg [(.int .i64 aG_1.1), (Enc.enc (aG_1.2 : List (Int × Int)))]) (rd_of (keep_clear (s := s) (pk := [1]) h0 rfl (map_agg (maps_cons rfl (maps_cons (Enc.map_enc _ (aG_1.2 : List (Int × Int))) maps_nil)))) rfl) (gone_clear (s := s) (pk := [1]) (t := 1) rfl) rfl ?_
  refine g_v0 (.bool false) rfl rfl ?_
  refine g_end ?_
  refine e_end ?_
  refine renew [(1, (.ref (.bx 1) 0 [] (.agg [(.int .i64 aG_1.1), (Enc.enc (aG_1.2 : List (Int × Int)))]))), (2, (.bool false))] ⟨rfl, rfl⟩ ?_
  rintro s ⟨h1, h2⟩
  refine .nsq ?_
  refine .seq ?_
  refine run_reg ?_
  refine e_end ?_
  refine g_v0 (.int .i64 1048576) rfl rfl ?_
  refine g_end ?_
  refine e_end ?_
  refine renew [(1, (.ref (.bx 1) 0 [] (.agg [(.int .i64 aG_1.1), (Enc.enc (aG_1.2 : List (Int × Int)))]))), (2, (.bool false)), (3, (.int .i64 1048576))] ⟨h1, h2, rfl⟩ ?_
  rintro s ⟨h1, h2, h3⟩
  refine .nsq ?_
  refine .seq ?_
  refine run_reg ?_
  refine e_end ?_
  refine g_v1 (t := 1) (u := (.ref (.bx 1) 0 [] (.agg [(.int .i64 aG_1.1), (Enc.enc (aG_1.2 : List (Int × Int)))]))) (.agg [(.int .i64 aG_1.1), (Enc.enc (aG_1.2 : List (Int × Int)))]) h1 rfl rfl ?_
  refine g_v1 (t := 3) (u := (.int .i64 1048576)) (.int .i64 1048576) h3 rfl rfl ?_
  obtain ⟨r_2, E_r_2, h⟩ := bind_some h
  refine g_call (m := 0) (al := false) (r := (Enc.enc (r_2 : Int))) [Enc.enc (aG_1 : (Int × (List (Int × Int)))), Enc.enc (1048576 : Int)] (ta_cons (v := (.agg [(.int .i64 aG_1.1), (Enc.enc (aG_1.2 : List (Int × Int)))])) rfl rfl (Enc.erase_enc (aG_1 : (Int × (List (Int × Int))))) (ta_cons (v := (.int .i64 1048576)) rfl rfl rfl ta_nil)) (H.c15 _ _ _ E_r_2) H.g15 rfl rfl rfl rfl ?_
  refine g_v1 (t := 19) (u := (.int .i64 r_2)) (.int .i64 r_2) rfl rfl rfl ?_
  refine g_end ?_
  refine e_end ?_
  refine renew [(1, (.ref (.bx 1) 0 [] (.agg [(.int .i64 aG_1.1), (Enc.enc (aG_1.2 : List (Int × Int)))]))), (2, (.bool false)), (3, (.int .i64 r_2))] ⟨h1, h2, rfl⟩ ?_
  rintro s ⟨h1, h2, h3⟩
  refine .nsq ?_
  refine .seq ?_
  refine .seq ?_
  refine run_reg ?_
  refine e_end ?_
  refine g_v1 (t := 3) (u := (.int .i64 r_2)) (.int .i64 r_2) h3 rfl rfl ?_
  refine g_v1 (t := 20) (u := (.int .i64 r_2)) (.bool (decide (r_2 < 0))) rfl rfl rfl ?_
  refine g_end ?_
  refine e_end ?_
  refine renew [(1, (.ref (.bx 1) 0 [] (.agg [(.int .i64 aG_1.1), (Enc.enc (aG_1.2 : List (Int × Int)))]))), (2, (.bool false)), (21, (.bool (decide (r_2 < 0))))] ⟨h1, h2, rfl⟩ ?_
  rintro s ⟨h1, h2, h21⟩
  refine .nsq ?_
  refine run_cond (t := decide (r_2 < 0)) h21 h (fun h => ?_) (fun h => ?_)
  · refine .seq ?_
    refine run_reg ?_
    refine e_end ?_
    refine g_v0 (.bool true) rfl rfl ?_
    refine g_end ?_
    refine e_end ?_
    refine renew [(1, (.ref (.bx 1) 0 [] (.agg [(.int .i64 aG_1.1), (Enc.enc (aG_1.2 : List (Int × Int)))]))), (2, (.bool true))] ⟨h1, rfl⟩ ?_
    rintro s ⟨h1, h2⟩
    refine .nsq ?_
    refine .ret ?_
    have hr := Option.some.inj h
    subst hr
    exact rrA (res_tmp h2) rfl
  · refine .skip ?_
    refine .nsq ?_
    refine .seq ?_
    refine run_reg ?_
    refine e_end ?_
    refine g_v1 (t := 1) (u := (.ref (.bx 1) 0 [] (.agg [(.int .i64 aG_1.1), (Enc.enc (aG_1.2 : List (Int × Int)))]))) (.agg [(.int .i64 aG_1.1), (Enc.enc (aG_1.2 : List (Int × Int)))]) h1 rfl rfl ?_
    obtain ⟨r_3, E_r_3, h⟩ := bind_some h
    refine g_call (m := 0) (al := true) (r := (Enc.enc (r_3 : (Int × (List (Int × Int)))))) [Enc.enc (aG_1 : (Int × (List (Int × Int))))] (ta_cons (v := (.agg [(.int .i64 aG_1.1), (Enc.enc (aG_1.2 : List (Int × Int)))])) rfl rfl (Enc.erase_enc (aG_1 : (Int × (List (Int × Int))))) ta_nil) (H.c17 _ _ E_r_3) H.g17 (hal_of (ht_cons (v := (.agg [(.int .i64 aG_1.1), (Enc.enc (aG_1.2 : List (Int × Int)))])) rfl rfl rfl ht_nil)) rfl rfl rfl ?_
    obtain ⟨r_4, E_r_4, h⟩ := bind_some h
    refine g_call (m := 0) (al := true) (r := (.tup [Enc.enc (r_4.a : (List Int)), Enc.enc (r_4.b : Int), Enc.enc (r_4.c : Bool)])) [Enc.enc (r_3 : (Int × (List (Int × Int))))] (ta_cons (v := (.agg [(.int .i64 r_3.1), (Enc.enc (r_3.2 : List (Int × Int)))])) rfl rfl (Enc.erase_enc (r_3 : (Int × (List (Int × Int))))) ta_nil) (H.c35 _ _ E_r_4) H.g35 (hal_of (ht_cons (v := (.agg [(.int .i64 r_3.1), (Enc.enc (r_3.2 : List (Int × Int)))])) rfl rfl rfl ht_nil)) rfl rfl rfl ?_
    refine g_v1 (t := 25) (u := (.tup [(Enc.enc (r_4.a : List Int)), (.int .i64 r_4.b), (.bool r_4.c)])) (.tup [(Enc.enc (r_4.a : List Int)), (.int .i64 r_4.b), (.bool r_4.c)]) rfl rfl rfl ?_
    refine g_v1 (t := 22) (u := (.tup [(Enc.enc (r_4.a : List Int)), (.int .i64 r_4.b), (.bool r_4.c)])) (Enc.enc (r_4.a : List Int)) rfl rfl rfl ?_
    refine g_v1 (t := 22) (u := (.tup [(Enc.enc (r_4.a : List Int)), (.int .i64 r_4.b), (.bool r_4.c)])) (.int .i64 r_4.b) rfl rfl rfl ?_
    refine g_v1 (t := 22) (u := (.tup [(Enc.enc (r_4.a : List Int)), (.int .i64 r_4.b), (.bool r_4.c)])) (.bool r_4.c) rfl rfl rfl ?_
    refine g_v1 (t := 26) (u := (Enc.enc (r_4.a : List Int))) (Enc.enc (r_4.a : List Int)) rfl rfl rfl ?_
    refine g_v1 (t := 27) (u := (.int .i64 r_4.b)) (.int .i64 r_4.b) rfl rfl rfl ?_
    refine g_v1 (t := 28) (u := (.bool r_4.c)) (.bool r_4.c) rfl rfl rfl ?_
    refine g_end ?_
    refine e_end ?_
    refine renew [(1, (.ref (.bx 1) 0 [] (.agg [(.int .i64 aG_1.1), (Enc.enc (aG_1.2 : List (Int × Int)))]))), (2, (.bool false)), (4, (Enc.enc (r_4.a : List Int))), (5, (.int .i64 r_4.b)), (6, (.bool r_4.c))] ⟨h1, h2, rfl, rfl, rfl⟩ ?_
    rintro s ⟨h1, h2, h4, h5, h6⟩
    refine .nsq ?_
    refine .seq ?_
    refine run_reg ?_
    refine e_clr ?_
    refine e_end ?_
    refine g_v1 (t := 1) (u := (.ref (.bx 1) 0 [] (.agg [(.int .i64 aG_1.1), (Enc.enc (aG_1.2 : List (Int × Int)))]))) (.agg [(.int .i64 aG_1.1), (Enc.enc (aG_1.2 : List (Int × Int)))]) (keep_clear (s := s) (pk := [30, 7]) h1 rfl (map_bx rfl (map_agg (maps_cons rfl (maps_cons (Enc.map_enc _ (aG_1.2 : List (Int × Int))) maps_nil))))) rfl rfl ?_
    obtain ⟨r_5, E_r_5, h⟩ := bind_some h
    refine g_callO (m := 1) (al := false) (r := (.agg [(Enc.enc (r_5.1 : Int)), (encO .sh (r_5.2 : NL (Int × Int)))])) (v := (.agg [(.int .i64 r_5.1), (encO (.at 30 [1]) (r_5.2 : NL (Int × Int)))])) (kk := 1000000017) [Enc.enc (aG_1 : (Int × (List (Int × Int))))] (ta_cons (v := (.agg [(.int .i64 aG_1.1), (Enc.enc (aG_1.2 : List (Int × Int)))])) rfl rfl (Enc.erase_enc (aG_1 : (Int × (List (Int × Int))))) ta_nil) (H.c17o _ _ E_r_5) H.g17o rfl (toks_agg (tokss_cons rfl (tokss_cons toks_encS tokss_nil))) (tag_agg (tags_cons rfl (tags_cons tag_encO tags_nil))) rfl (gone_clear (s := s) (pk := [30, 7]) (t := 30) rfl) ?_
    refine g_alloc (gone_clear (s := s) (pk := [30, 7]) (t := 7) rfl) ?_
    refine g_store (.agg [(.int .i64 r_5.1), (encO (.at 30 [1]) (r_5.2 : NL (Int × Int)))]) (rd_of rfl rfl) (rd_of rfl rfl) ⟨by decide, by decide, rfl, (by simp [V.shape, V.shapes, shape_encP, Sh.beq, Sh.beqs]), (by simp [V.shape, V.shapes, shape_encP, Sh.beq, Sh.beqs]), (by simp [V.toks, V.tokss, tok_memP])⟩ ?_
    refine g_end ?_
    refine e_end ?_
    refine renew [(1, (.ref (.bx 1) 0 [] (.agg [(.int .i64 aG_1.1), (Enc.enc (aG_1.2 : List (Int × Int)))]))), (2, (.bool false)), (4, (Enc.enc (r_4.a : List Int))), (5, (.int .i64 r_4.b)), (6, (.bool r_4.c)), (7, (.ref (.bx 7) 0 [] (.agg [(.int .i64 r_5.1), (encO (.at 30 [1]) (r_5.2 : NL (Int × Int)))])))] ⟨(keep_mut (keep_clear (s := s) (pk := [30, 7]) h1 rfl (map_bx rfl (map_agg (maps_cons rfl (maps_cons (Enc.map_enc _ (aG_1.2 : List (Int × Int))) maps_nil))))) (mut_ref_ne rfl rfl (mut_agg (muts_cons rfl (muts_cons (Enc.mut_enc _ _ _ _ (aG_1.2 : List (Int × Int))) rfl))))), (keep_mut (keep_clear (s := s) (pk := [30, 7]) h2 rfl rfl) rfl), (keep_mut (keep_clear (s := s) (pk := [30, 7]) h4 rfl (Enc.map_enc _ (r_4.a : List Int))) (Enc.mut_enc _ _ _ _ (r_4.a : List Int))), (keep_mut (keep_clear (s := s) (pk := [30, 7]) h5 rfl rfl) rfl), (keep_mut (keep_clear (s := s) (pk := [30, 7]) h6 rfl rfl) rfl), (keep_mut rfl rfl)⟩ ?_
    rintro s ⟨h1, h2, h4, h5, h6, h7⟩
    refine .nsq ?_
    refine .seq ?_
    refine run_reg ?_
    refine e_clr ?_
    refine e_end ?_
    refine g_v (.agg [(.int .i64 r_5.1), (encO (.at 30 [1]) (r_5.2 : NL (Int × Int)))]) (ev_loadN (c := (.agg [(.int .i64 r_5.1), (encO (.at 30 [1]) (r_5.2 : NL (Int × Int)))])) (keep_clear (s := s) (pk := [33]) h7 rfl (map_bx rfl (map_agg (maps_cons rfl (maps_cons (map_encO (r := 30) (p := [1]) rfl rfl) maps_nil))))) (by simp [V.shape, V.shapes, shape_encP, Sh.beq, Sh.beqs])) ?_
    obtain ⟨r_6, E_r_6, h⟩ := bind_some h
    refine g_callO (m := 1) (al := false) (r := (.tup [(encO .sh (r_6.a : NL Int)), (Enc.enc (r_6.b : Int)), (Enc.enc (r_6.c : Bool))])) (v := (.tup [(encO (.at 33 [0]) (r_6.a : NL Int)), (.int .i64 r_6.b), (.bool r_6.c)])) (kk := 1000000036) [Enc.enc ((r_5.1, r_5.2.list) : (Int × (List (Int × Int))))] (ta_cons (v := (.agg [(.int .i64 r_5.1), (encO (.at 30 [1]) (r_5.2 : NL (Int × Int)))])) rfl rfl (erase_agg (erases_cons rfl (erases_cons (erase_encO (o := r_5.2)) erases_nil))) ta_nil) (H.c36o _ _ E_r_6) H.g36o rfl (toks_tup (tokss_cons toks_encS (tokss_cons rfl (tokss_cons rfl tokss_nil)))) (tag_tup (tags_cons tag_encO (tags_cons rfl (tags_cons rfl tags_nil)))) rfl (gone_clear (s := s) (pk := [33]) (t := 33) rfl) ?_
    refine g_v1 (t := 33) (u := (.tup [(encO (.at 33 [0]) (r_6.a : NL Int)), (.int .i64 r_6.b), (.bool r_6.c)])) (.tup [(encO (.at 33 [0]) (r_6.a : NL Int)), (.int .i64 r_6.b), (.bool r_6.c)]) rfl rfl rfl ?_
    refine g_v (encO (.at 33 [0]) (r_6.a : NL Int)) (ev_extN (v := (encO (.at 33 [0]) (r_6.a : NL Int))) rfl rfl ok_encP) ?_
    refine g_v1 (t := 31) (u := (.tup [(encO (.at 33 [0]) (r_6.a : NL Int)), (.int .i64 r_6.b), (.bool r_6.c)])) (.int .i64 r_6.b) rfl rfl rfl ?_
    refine g_v1 (t := 31) (u := (.tup [(encO (.at 33 [0]) (r_6.a : NL Int)), (.int .i64 r_6.b), (.bool r_6.c)])) (.bool r_6.c) rfl rfl rfl ?_
    refine g_v (encO (.at 33 [0]) (r_6.a : NL Int)) (ev_mov rfl ok_encO) ?_
    refine g_v1 (t := 35) (u := (.int .i64 r_6.b)) (.int .i64 r_6.b) rfl rfl rfl ?_
    refine g_v1 (t := 36) (u := (.bool r_6.c)) (.bool r_6.c) rfl rfl rfl ?_
    refine g_end ?_
    refine e_home (r := 33) (x := 8) (v := (encO (.at 33 [0]) (r_6.a : NL Int))) (by exact rfl) ok_encO (fun s_4 hg_4 => ?_)
    refine e_end ?_
    refine renew [(1, (.ref (.bx 1) 0 [] (.agg [(.int .i64 aG_1.1), (Enc.enc (aG_1.2 : List (Int × Int)))]))), (2, (.bool false)), (4, (Enc.enc (r_4.a : List Int))), (5, (.int .i64 r_4.b)), (6, (.bool r_4.c)), (7, (.ref (.bx 7) 0 [] (.agg [(.int .i64 r_5.1), (encO (.at 30 [1]) (r_5.2 : NL (Int × Int)))]))), (8, (encO (.at 8 [0]) (r_6.a : NL Int))), (9, (.int .i64 r_6.b)), (10, (.bool r_6.c))] ⟨(hg_4 1 (.ref (.bx 1) 0 [] (.agg [(.int .i64 aG_1.1), (Enc.enc (aG_1.2 : List (Int × Int)))])) (.ref (.bx 1) 0 [] (.agg [(.int .i64 aG_1.1), (Enc.enc (aG_1.2 : List (Int × Int)))])) (keep_clear (s := s) (pk := [33]) h1 rfl (map_bx rfl (map_agg (maps_cons rfl (maps_cons (Enc.map_enc _ (aG_1.2 : List (Int × Int))) maps_nil))))) (map_bx rfl (map_agg (maps_cons rfl (maps_cons (Enc.map_enc _ (aG_1.2 : List (Int × Int))) maps_nil))))), (hg_4 2 (.bool false) (.bool false) (keep_clear (s := s) (pk := [33]) h2 rfl rfl) rfl), (hg_4 4 (Enc.enc (r_4.a : List Int)) (Enc.enc (r_4.a : List Int)) (keep_clear (s := s) (pk := [33]) h4 rfl (Enc.map_enc _ (r_4.a : List Int))) (Enc.map_enc _ (r_4.a : List Int))), (hg_4 5 (.int .i64 r_4.b) (.int .i64 r_4.b) (keep_clear (s := s) (pk := [33]) h5 rfl rfl) rfl), (hg_4 6 (.bool r_4.c) (.bool r_4.c) (keep_clear (s := s) (pk := [33]) h6 rfl rfl) rfl), (hg_4 7 (.ref (.bx 7) 0 [] (.agg [(.int .i64 r_5.1), (encO (.at 30 [1]) (r_5.2 : NL (Int × Int)))])) (.ref (.bx 7) 0 [] (.agg [(.int .i64 r_5.1), (encO (.at 30 [1]) (r_5.2 : NL (Int × Int)))])) (keep_clear (s := s) (pk := [33]) h7 rfl (map_bx rfl (map_agg (maps_cons rfl (maps_cons (map_encO (r := 30) (p := [1]) rfl rfl) maps_nil))))) (map_bx rfl (map_agg (maps_cons rfl (maps_cons (map_encO (r := 30) (p := [1]) rfl rfl) maps_nil))))), (hg_4 8 (encO (.at 33 [0]) (r_6.a : NL Int)) (encO (.at 8 [0]) (r_6.a : NL Int)) rfl (map_encO (r := 33) (p := [0]) rfl rfl)), (hg_4 9 (.int .i64 r_6.b) (.int .i64 r_6.b) rfl rfl), (hg_4 10 (.bool r_6.c) (.bool r_6.c) rfl rfl)⟩ ?_
    rintro s ⟨h1, h2, h4, h5, h6, h7, h8, h9, h10⟩
    refine .nsq ?_
    refine .seq ?_
    refine .seq ?_
    refine run_reg ?_
    refine e_end ?_
    refine g_v (encO (.at 8 [0]) (r_6.a : NL Int)) (ev_mov h8 ok_encO) ?_
    refine g_v1 (t := 4) (u := (Enc.enc (r_4.a : List Int))) (Enc.enc (r_4.a : List Int)) h4 rfl rfl ?_
    obtain ⟨r_24, E_r_24, h⟩ := bind_some h
    refine g_call (m := 0) (al := false) (r := (Enc.enc (r_24 : Bool))) [Enc.enc (r_6.a.list : (List Int)), Enc.enc (r_4.a : (List Int))] (ta_cons (v := (encO (.at 8 [0]) (r_6.a : NL Int))) rfl ok_encP (erase_encO (o := r_6.a)) (ta_cons (v := (Enc.enc (r_4.a : List Int))) rfl rfl (Enc.erase_enc (r_4.a : (List Int))) ta_nil)) (H.c19 _ _ _ E_r_24) H.g19 rfl rfl rfl rfl ?_
    refine g_v1 (t := 39) (u := (.bool r_24)) (.bool (!r_24)) rfl rfl rfl ?_
    refine g_v1 (t := 40) (u := (.bool (!r_24))) (.bool (!r_24)) rfl rfl rfl ?_
    refine split_on (c := (!r_24)) h (fun hg5 h => ?_) (fun hg5 h => ?_)
    · refine g_no (Eq.trans (b := .bool (!r_24)) rfl (congrArg V.bool hg5)) ?_
      refine g_no (Eq.trans (b := .bool (!r_24)) rfl (congrArg V.bool hg5)) ?_
      refine g_no (Eq.trans (b := .bool (!r_24)) rfl (congrArg V.bool hg5)) ?_
      refine g_v2 (t1 := 41) (t2 := 44) (u1 := (.bool true)) (u2 := (.tup [])) (.bool true) (Eq.trans (b := .bool (!r_24)) rfl (congrArg V.bool hg5)) rfl rfl rfl ?_
      refine g_v1 (t := 45) (u := (.bool true)) (.bool true) rfl rfl rfl ?_
      refine g_no rfl ?_
      refine g_no rfl ?_
      refine g_no rfl ?_
      refine g_v2 (t1 := 46) (t2 := 49) (u1 := (.bool true)) (u2 := (.tup [])) (.bool true) rfl rfl rfl rfl ?_
      refine g_end ?_
      refine e_end ?_
      refine renew [(1, (.ref (.bx 1) 0 [] (.agg [(.int .i64 aG_1.1), (Enc.enc (aG_1.2 : List (Int × Int)))]))), (2, (.bool false)), (4, (Enc.enc (r_4.a : List Int))), (5, (.int .i64 r_4.b)), (6, (.bool r_4.c)), (7, (.ref (.bx 7) 0 [] (.agg [(.int .i64 r_5.1), (encO (.at 30 [1]) (r_5.2 : NL (Int × Int)))]))), (8, (encO (.at 8 [0]) (r_6.a : NL Int))), (9, (.int .i64 r_6.b)), (10, (.bool r_6.c)), (50, (.bool true))] ⟨h1, h2, h4, h5, h6, h7, h8, h9, h10, rfl⟩ ?_
      rintro s ⟨h1, h2, h4, h5, h6, h7, h8, h9, h10, h50⟩
      exact t_f9_j3 H aG_1 r_4 r_5 r_6 true _ ⟨h1, h2, h4, h5, h6, h7, h8, h9, h10, h50⟩ h
    · refine g_yes (Eq.trans (b := .bool (!r_24)) rfl (congrArg V.bool hg5)) (g_v1 (t := 9) (u := (.int .i64 r_6.b)) (.int .i64 r_6.b) h9 rfl rfl ?_)
      refine g_yes (Eq.trans (b := .bool (!r_24)) rfl (congrArg V.bool hg5)) (g_v1 (t := 5) (u := (.int .i64 r_4.b)) (.int .i64 r_4.b) h5 rfl rfl ?_)
      refine g_yes (Eq.trans (b := .bool (!r_24)) rfl (congrArg V.bool hg5)) (g_v2 (t1 := 42) (t2 := 43) (u1 := (.int .i64 r_6.b)) (u2 := (.int .i64 r_4.b)) (.bool (r_6.b != r_4.b)) rfl rfl rfl rfl ?_)
      refine g_v2 (t1 := 41) (t2 := 44) (u1 := (.bool false)) (u2 := (.bool (r_6.b != r_4.b))) (.bool (r_6.b != r_4.b)) (Eq.trans (b := .bool (!r_24)) rfl (congrArg V.bool hg5)) rfl rfl rfl ?_
      refine g_v1 (t := 45) (u := (.bool (r_6.b != r_4.b))) (.bool (r_6.b != r_4.b)) rfl rfl rfl ?_
      refine split_on (c := (r_6.b != r_4.b)) h (fun hg10 h => ?_) (fun hg10 h => ?_)
      · refine g_no (Eq.trans (b := .bool (r_6.b != r_4.b)) rfl (congrArg V.bool hg10)) ?_
        refine g_no (Eq.trans (b := .bool (r_6.b != r_4.b)) rfl (congrArg V.bool hg10)) ?_
        refine g_no (Eq.trans (b := .bool (r_6.b != r_4.b)) rfl (congrArg V.bool hg10)) ?_
        refine g_v2 (t1 := 46) (t2 := 49) (u1 := (.bool true)) (u2 := (.tup [])) (.bool true) (Eq.trans (b := .bool (r_6.b != r_4.b)) rfl (congrArg V.bool hg10)) rfl rfl rfl ?_
        refine g_end ?_
        refine e_end ?_
        refine renew [(1, (.ref (.bx 1) 0 [] (.agg [(.int .i64 aG_1.1), (Enc.enc (aG_1.2 : List (Int × Int)))]))), (2, (.bool false)), (4, (Enc.enc (r_4.a : List Int))), (5, (.int .i64 r_4.b)), (6, (.bool r_4.c)), (7, (.ref (.bx 7) 0 [] (.agg [(.int .i64 r_5.1), (encO (.at 30 [1]) (r_5.2 : NL (Int × Int)))]))), (8, (encO (.at 8 [0]) (r_6.a : NL Int))), (9, (.int .i64 r_6.b)), (10, (.bool r_6.c)), (50, (.bool true))] ⟨h1, h2, h4, h5, h6, h7, h8, h9, h10, rfl⟩ ?_
        rintro s ⟨h1, h2, h4, h5, h6, h7, h8, h9, h10, h50⟩
        exact t_f9_j3 H aG_1 r_4 r_5 r_6 true _ ⟨h1, h2, h4, h5, h6, h7, h8, h9, h10, h50⟩ h
      · refine g_yes (Eq.trans (b := .bool (r_6.b != r_4.b)) rfl (congrArg V.bool hg10)) (g_v1 (t := 10) (u := (.bool r_6.c)) (.bool r_6.c) h10 rfl rfl ?_)
        refine g_yes (Eq.trans (b := .bool (r_6.b != r_4.b)) rfl (congrArg V.bool hg10)) (g_v1 (t := 6) (u := (.bool r_4.c)) (.bool r_4.c) h6 rfl rfl ?_)
        refine g_yes (Eq.trans (b := .bool (r_6.b != r_4.b)) rfl (congrArg V.bool hg10)) (g_v2 (t1 := 47) (t2 := 48) (u1 := (.bool r_6.c)) (u2 := (.bool r_4.c)) (.bool (r_6.c != r_4.c)) rfl rfl rfl rfl ?_)
        refine g_v2 (t1 := 46) (t2 := 49) (u1 := (.bool false)) (u2 := (.bool (r_6.c != r_4.c))) (.bool (r_6.c != r_4.c)) (Eq.trans (b := .bool (r_6.b != r_4.b)) rfl (congrArg V.bool hg10)) rfl rfl rfl ?_
        refine g_end ?_
        refine e_end ?_
        refine renew [(1, (.ref (.bx 1) 0 [] (.agg [(.int .i64 aG_1.1), (Enc.enc (aG_1.2 : List (Int × Int)))]))), (2, (.bool false)), (4, (Enc.enc (r_4.a : List Int))), (5, (.int .i64 r_4.b)), (6, (.bool r_4.c)), (7, (.ref (.bx 7) 0 [] (.agg [(.int .i64 r_5.1), (encO (.at 30 [1]) (r_5.2 : NL (Int × Int)))]))), (8, (encO (.at 8 [0]) (r_6.a : NL Int))), (9, (.int .i64 r_6.b)), (10, (.bool r_6.c)), (50, (.bool (r_6.c != r_4.c)))] ⟨h1, h2, h4, h5, h6, h7, h8, h9, h10, rfl⟩ ?_
        rintro s ⟨h1, h2, h4, h5, h6, h7, h8, h9, h10, h50⟩
        exact t_f9_j3 H aG_1 r_4 r_5 r_6 (r_6.c != r_4.c) _ ⟨h1, h2, h4, h5, h6, h7, h8, h9, h10, h50⟩ h
end
def e9 (F : Nat) : Ent := ⟨9, da (fun (x : ((Int × (List (Int × Int))) × Unit)) => w_FnExactLeastBandwidth F x.1) (fun (r : Bool) => (Enc.enc (r : Bool))), 0, false, selF []⟩
theorem p9 {F : Nat} {x0 : (Int × (List (Int × Int)))} {r : Bool} (h : w_FnExactLeastBandwidth F x0 = some r) : (e9 F).den [Enc.enc x0] = some (Enc.enc (r : Bool)) := da_put (f := fun (x : ((Int × (List (Int × Int))) × Unit)) => w_FnExactLeastBandwidth F x.1) (t := fun (r : Bool) => (Enc.enc (r : Bool))) (x0, ()) h
theorem o9 {D : Den} {σ : Sig} {F : Nat} (hF : Fits2 Try.prog D σ) (H : H9 D σ F) : (e9 F).Ok Try.prog := by
  refine ok_of (f := 9) (show unk 9 = 9 from rfl) (fun args r h => ?_) ⟨Try.f9, Try.func9, rfl, rfl⟩
  obtain ⟨⟨x0, _⟩, y, rfl, hy, rfl⟩ := da_open h
  exact contract_run hF (by kernel_rfl) Try.func9 rfl c9 (show 1 ≤ Try.f9.ntmps by decide) (t9 H x0 _ rfl hy)
end Go.Zq
