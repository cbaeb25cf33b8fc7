/- Functions of the program as typed functions, and that the machine runs as they say (part 1). No further condition. -/
import Derived.Test.YtikifjdbaggajaaK2
import Derived.Test.YtikifjdbaggajaaProg
import Derived.Test.YtikifjdbaggajaaChecked
import Derived.KernelRfl
set_option linter.unusedVariables false
set_option linter.unusedSimpArgs false
/- Functions of the program, as typed functions, and that the machine runs as they say. -/
namespace Go.Zq
open Go.Proofs
/- loop.example/g01109/laws.szIntA2S -/
def A29_3 : AC := (AC.cond (O.t 10) (AC.seq (AC.reg [] [(I.mk (some 4) none false (X.v (A.mov (O.k (V.int IntKind.i64 (Int.negSucc 0))))))] []) AC.ret) AC.skip)
def A29_4 : AC := (AC.seq (AC.reg [] [(I.mk (some 11) none false (X.v (A.mov (O.t 1)))), (I.mk (some 4) none false (X.v (A.mov (O.t 11))))] []) AC.ret)
def A29_2 : AC := (AC.seq (AC.seq (AC.reg [] [(I.mk (some 9) none false (X.v (A.mov (O.t 1)))), (I.mk (some 10) none false (X.v (A.bin BinOp.lss (O.t 9) (O.k (V.int IntKind.i64 (Int.ofNat 0))))))] []) A29_3) A29_4)
def A29_1 : AC := (AC.seq (AC.reg [] [(I.mk (some 5) none false (X.v (A.mov (O.t 1)))), (I.mk (some 6) none false (X.v (A.mov (O.t 0)))), (I.mk (some 7) none false (X.v (A.len (O.t 6)))), (I.mk (some 8) none false (X.v (A.bin BinOp.sub (O.t 5) (O.t 7)))), (I.mk (some 1) none false (X.v (A.mov (O.t 8))))] []) A29_2)
def A29 : AC := (AC.seq (AC.reg [] [(I.mk (some 4) none false (X.v (A.mov (O.k (V.int IntKind.i64 (Int.ofNat 0))))))] []) A29_1)
def an29 : List An := []
theorem c29 : cC Try.prog Try.f29.ntmps an29 (Try.f29.body.getD .skip) = some A29 := by rfl
structure H29 (D : Den) (σ : Sig) (F : Nat) : Prop where
  mk ::
abbrev R29 (r : Int) : (Nat → V) → Prop := RR Try.prog [.tmp 4] 0 false (Enc.enc (r : Int))
section
variable {D : Den} {σ : Sig} {F : Nat} {r : Int}
def w_szIntA2S (F : Nat) (a_1 : (List (Int × Int))) (left_2 : Int) : Option Int :=
  bif decide ((w64 (left_2 - (a_1.length : Int))) < 0) then
    some (-1)
  else
    some (w64 (left_2 - (a_1.length : Int)))
theorem t29 (H : H29 D σ F) (a_1 : (List (Int × Int))) (left_2 : Int) (s : Nat → V) (hs : Facts [(0, (Enc.enc (a_1 : List (Int × Int)))), (1, (.int .i64 left_2))] s) (h : w_szIntA2S F a_1 left_2 = some r) : Run D σ (R29 r) (.run A29 []) s := by
  unfold w_szIntA2S at h
  obtain ⟨h0, h1⟩ := hs
  refine .seq ?_
  refine run_reg ?_
  refine e_end ?_
  refine g_v0 (.int .i64 0) rfl rfl ?_
  refine g_end ?_
  refine e_end ?_
  refine renew [(0, (Enc.enc (a_1 : List (Int × Int)))), (1, (.int .i64 left_2)), (4, (.int .i64 0))] ⟨h0, h1, rfl⟩ ?_
  rintro s ⟨h0, h1, h4⟩
  refine .nsq ?_
  refine .seq ?_
  refine run_reg ?_
  refine e_end ?_
  refine g_v1 (t := 1) (u := (.int .i64 left_2)) (.int .i64 left_2) h1 rfl rfl ?_
  refine g_v1 (t := 0) (u := (Enc.enc (a_1 : List (Int × Int)))) (Enc.enc (a_1 : List (Int × Int))) h0 rfl rfl ?_
  refine g_v (.int .i64 (a_1.length : Int)) (ev_len (xs := a_1) rfl) ?_
  refine g_v2 (t1 := 5) (t2 := 7) (u1 := (.int .i64 left_2)) (u2 := (.int .i64 (a_1.length : Int))) (.int .i64 (w64 (left_2 - (a_1.length : Int)))) rfl rfl rfl rfl ?_
  refine g_v1 (t := 8) (u := (.int .i64 (w64 (left_2 - (a_1.length : Int))))) (.int .i64 (w64 (left_2 - (a_1.length : Int)))) rfl rfl rfl ?_
  refine g_end ?_
  refine e_end ?_
  refine renew [(1, (.int .i64 (w64 (left_2 - (a_1.length : Int))))), (4, (.int .i64 0))] ⟨rfl, h4⟩ ?_
  rintro s ⟨h1, h4⟩
  refine .nsq ?_
  refine .seq ?_
  refine .seq ?_
  refine run_reg ?_
  refine e_end ?_
  refine g_v1 (t := 1) (u := (.int .i64 (w64 (left_2 - (a_1.length : Int))))) (.int .i64 (w64 (left_2 - (a_1.length : Int)))) h1 rfl rfl ?_
  refine g_v1 (t := 9) (u := (.int .i64 (w64 (left_2 - (a_1.length : Int))))) (.bool (decide ((w64 (left_2 - (a_1.length : Int))) < 0))) rfl rfl rfl ?_
  refine g_end ?_
  refine e_end ?_
  refine renew [(1, (.int .i64 (w64 (left_2 - (a_1.length : Int))))), (4, (.int .i64 0)), (10, (.bool (decide ((w64 (left_2 - (a_1.length : Int))) < 0))))] ⟨h1, h4, rfl⟩ ?_
  rintro s ⟨h1, h4, h10⟩
  refine .nsq ?_
  refine run_cond (t := decide ((w64 (left_2 - (a_1.length : Int))) < 0)) h10 h (fun h => ?_) (fun h => ?_)
  · refine .seq ?_
    refine run_reg ?_
    refine e_end ?_
    refine g_v0 (.int .i64 (-1)) rfl rfl ?_
    refine g_end ?_
    refine e_end ?_
    refine renew [(1, (.int .i64 (w64 (left_2 - (a_1.length : Int))))), (4, (.int .i64 (-1)))] ⟨h1, rfl⟩ ?_
    rintro s ⟨h1, h4⟩
    refine .nsq ?_
    refine .ret ?_
    have hr := Option.some.inj h
    subst hr
    exact rrA (res_tmp h4) rfl
  · refine .skip ?_
    refine .nsq ?_
    refine .seq ?_
    refine run_reg ?_
    refine e_end ?_
    refine g_v1 (t := 1) (u := (.int .i64 (w64 (left_2 - (a_1.length : Int))))) (.int .i64 (w64 (left_2 - (a_1.length : Int)))) h1 rfl rfl ?_
    refine g_v1 (t := 11) (u := (.int .i64 (w64 (left_2 - (a_1.length : Int))))) (.int .i64 (w64 (left_2 - (a_1.length : Int)))) rfl rfl rfl ?_
    refine g_end ?_
    refine e_end ?_
    refine renew [(4, (.int .i64 (w64 (left_2 - (a_1.length : Int)))))] rfl ?_
    rintro s h4
    refine .nsq ?_
    refine .ret ?_
    have hr := Option.some.inj h
    subst hr
    exact rrA (res_tmp h4) rfl
end
def e29 (F : Nat) : Ent := ⟨29, dn2 (w_szIntA2S F) (fun (r : Int) => (Enc.enc (r : Int))), 0, false⟩
theorem o29 {D : Den} {σ : Sig} {F : Nat} (hF : Fits2 Try.prog D σ) (H : H29 D σ F) : (e29 F).Ok Try.prog := by
  refine ⟨fun args r h => ?_, ⟨Try.f29, Try.func29, rfl, rfl⟩⟩
  obtain ⟨x0, x1, y, rfl, hy, rfl⟩ := dn2_open h
  exact contract_run hF (by kernel_rfl) Try.func29 rfl c29 (show 2 ≤ Try.f29.ntmps by decide) (t29 H x0 x1 _ ⟨rfl, rfl⟩ hy)
/- loop.example/g01109/laws.szGraph -/
def A9_3 : AC := (AC.cond (O.t 10) (AC.seq (AC.reg [] [(I.mk (some 4) none false (X.v (A.mov (O.k (V.int IntKind.i64 (Int.negSucc 0))))))] []) AC.ret) AC.skip)
def A9_4 : AC := (AC.seq (AC.reg [] [(I.mk (some 11) none false (X.v (A.mov (O.t 1)))), (I.mk (some 4) none false (X.v (A.mov (O.t 11))))] []) AC.ret)
def A9_2 : AC := (AC.seq (AC.seq (AC.reg [] [(I.mk (some 9) none false (X.v (A.mov (O.t 1)))), (I.mk (some 10) none false (X.v (A.bin BinOp.lss (O.t 9) (O.k (V.int IntKind.i64 (Int.ofNat 0))))))] []) A9_3) A9_4)
def A9_1 : AC := (AC.seq (AC.reg [] [(I.mk (some 5) none false (X.v (A.fld (O.t 2) 1 1))), (I.mk (some 6) none false (X.v (A.load Sh.p (O.t 5)))), (I.mk (some 7) none false (X.v (A.mov (O.t 1)))), (I.mk (some 8) none false (X.call (O.k (V.fn 29 [] [])) [(O.t 6), (O.t 7)])), (I.mk (some 1) none false (X.v (A.mov (O.t 8))))] []) A9_2)
def A9 : AC := (AC.seq (AC.reg [.clr [2]] [(I.mk (some 2) none false (X.box (O.t 0))), (I.mk (some 4) none false (X.v (A.mov (O.k (V.int IntKind.i64 (Int.ofNat 0))))))] []) A9_1)
def an9 : List An := [{ id := 0, pre := [.clr [2]], ep := [] }]
theorem c9 : cC Try.prog Try.f9.ntmps an9 (Try.f9.body.getD .skip) = some A9 := by rfl
structure H9 (D : Den) (σ : Sig) (F : Nat) : Prop where
  c29 : ∀ x0 x1 r, w_szIntA2S F x0 x1 = some r → D 29 [Enc.enc x0, Enc.enc x1] = some (Enc.enc (r : Int))
  g29 : σ 29 = some (0, false)
abbrev R9 (r : Int) : (Nat → V) → Prop := RR Try.prog [.tmp 4] 0 false (Enc.enc (r : Int))
section
variable {D : Den} {σ : Sig} {F : Nat} {r : Int}
def w_szGraph (F : Nat) (a_1 : (Int × (List (Int × Int)))) (left_2 : Int) : Option Int :=
  (w_szIntA2S F a_1.2 left_2).bind fun r_3 =>
  bif decide (r_3 < 0) then
    some (-1)
  else
    some r_3
theorem t9 (H : H9 D σ F) (a_1 : (Int × (List (Int × Int)))) (left_2 : Int) (s : Nat → V) (hs : Facts [(0, (.agg [(.int .i64 a_1.1), (Enc.enc (a_1.2 : List (Int × Int)))])), (1, (.int .i64 left_2))] s) (h : w_szGraph F a_1 left_2 = some r) : Run D σ (R9 r) (.run A9 []) s := by
  unfold w_szGraph at h
  obtain ⟨h0, h1⟩ := hs
  refine .seq ?_
  refine run_reg ?_
  refine e_clr ?_
  refine e_end ?_
  refine g_box (.agg [(.int .i64 a_1.1), (Enc.enc (a_1.2 : List (Int × Int)))]) (rd_of (keep_clear (s := s) (pk := [2]) h0 rfl (map_agg (maps_cons rfl (maps_cons (Enc.map_enc _ (a_1.2 : List (Int × Int))) maps_nil)))) rfl) (gone_clear (s := s) (pk := [2]) (t := 2) rfl) rfl ?_
  refine g_v0 (.int .i64 0) rfl rfl ?_
  refine g_end ?_
  refine e_end ?_
  refine renew [(1, (.int .i64 left_2)), (2, (.ref (.bx 2) 0 [] (.agg [(.int .i64 a_1.1), (Enc.enc (a_1.2 : List (Int × Int)))]))), (4, (.int .i64 0))] ⟨(keep_clear (s := s) (pk := [2]) h1 rfl rfl), rfl, rfl⟩ ?_
  rintro s ⟨h1, h2, h4⟩
  refine .nsq ?_
  refine .seq ?_
  refine run_reg ?_
  refine e_end ?_
  refine g_v1 (t := 2) (u := (.ref (.bx 2) 0 [] (.agg [(.int .i64 a_1.1), (Enc.enc (a_1.2 : List (Int × Int)))]))) (.ref (.bx 2) 0 [1] (Enc.enc (a_1.2 : List (Int × Int)))) h2 rfl rfl ?_
  refine g_v1 (t := 5) (u := (.ref (.bx 2) 0 [1] (Enc.enc (a_1.2 : List (Int × Int))))) (Enc.enc (a_1.2 : List (Int × Int))) rfl rfl rfl ?_
  refine g_v1 (t := 1) (u := (.int .i64 left_2)) (.int .i64 left_2) h1 rfl rfl ?_
  obtain ⟨r_3, E_r_3, h⟩ := bind_some h
  refine g_call (m := 0) (al := false) (r := (Enc.enc (r_3 : Int))) [Enc.enc (a_1.2 : (List (Int × Int))), Enc.enc (left_2 : Int)] (ta_cons (v := (Enc.enc (a_1.2 : List (Int × Int)))) rfl rfl (Enc.erase_enc (a_1.2 : (List (Int × Int)))) (ta_cons (v := (.int .i64 left_2)) rfl rfl rfl ta_nil)) (H.c29 _ _ _ E_r_3) H.g29 rfl rfl rfl rfl ?_
  refine g_v1 (t := 8) (u := (.int .i64 r_3)) (.int .i64 r_3) rfl rfl rfl ?_
  refine g_end ?_
  refine e_end ?_
  refine renew [(1, (.int .i64 r_3)), (4, (.int .i64 0))] ⟨rfl, h4⟩ ?_
  rintro s ⟨h1, h4⟩
  refine .nsq ?_
  refine .seq ?_
  refine .seq ?_
  refine run_reg ?_
  refine e_end ?_
  refine g_v1 (t := 1) (u := (.int .i64 r_3)) (.int .i64 r_3) h1 rfl rfl ?_
  refine g_v1 (t := 9) (u := (.int .i64 r_3)) (.bool (decide (r_3 < 0))) rfl rfl rfl ?_
  refine g_end ?_
  refine e_end ?_
  refine renew [(1, (.int .i64 r_3)), (4, (.int .i64 0)), (10, (.bool (decide (r_3 < 0))))] ⟨h1, h4, rfl⟩ ?_
  rintro s ⟨h1, h4, h10⟩
  refine .nsq ?_
  refine run_cond (t := decide (r_3 < 0)) h10 h (fun h => ?_) (fun h => ?_)
  · refine .seq ?_
    refine run_reg ?_
    refine e_end ?_
    refine g_v0 (.int .i64 (-1)) rfl rfl ?_
    refine g_end ?_
    refine e_end ?_
    refine renew [(1, (.int .i64 r_3)), (4, (.int .i64 (-1)))] ⟨h1, rfl⟩ ?_
    rintro s ⟨h1, h4⟩
    refine .nsq ?_
    refine .ret ?_
    have hr := Option.some.inj h
    subst hr
    exact rrA (res_tmp h4) rfl
  · refine .skip ?_
    refine .nsq ?_
    refine .seq ?_
    refine run_reg ?_
    refine e_end ?_
    refine g_v1 (t := 1) (u := (.int .i64 r_3)) (.int .i64 r_3) h1 rfl rfl ?_
    refine g_v1 (t := 11) (u := (.int .i64 r_3)) (.int .i64 r_3) rfl rfl rfl ?_
    refine g_end ?_
    refine e_end ?_
    refine renew [(4, (.int .i64 r_3))] rfl ?_
    rintro s h4
    refine .nsq ?_
    refine .ret ?_
    have hr := Option.some.inj h
    subst hr
    exact rrA (res_tmp h4) rfl
end
def e9 (F : Nat) : Ent := ⟨9, dn2 (w_szGraph F) (fun (r : Int) => (Enc.enc (r : Int))), 0, false⟩
theorem o9 {D : Den} {σ : Sig} {F : Nat} (hF : Fits2 Try.prog D σ) (H : H9 D σ F) : (e9 F).Ok Try.prog := by
  refine ⟨fun args r h => ?_, ⟨Try.f9, Try.func9, rfl, rfl⟩⟩
  obtain ⟨x0, x1, y, rfl, hy, rfl⟩ := dn2_open h
  exact contract_run hF (by kernel_rfl) Try.func9 rfl c9 (show 2 ≤ Try.f9.ntmps by decide) (t9 H x0 x1 _ ⟨rfl, rfl⟩ hy)
/- loop.example/g01109/laws.toIntA2 -/
def A59_2 : AC := (AC.cond (O.t 6) AC.skip (AC.exit 0))
def A59_4 : AC := (AC.reg [] [(I.mk (some 7) none false (X.v (A.mov (O.t 4)))), (I.mk (some 8) none false (X.v (A.bin BinOp.add (O.t 7) (O.k (V.int IntKind.i64 (Int.ofNat 1)))))), (I.mk (some 4) none false (X.v (A.mov (O.t 8))))] [])
def A59_3 : AC := (AC.seq (AC.block 1 (AC.reg [] [(I.mk (some 9) none false (X.v (A.mov (O.t 4)))), (I.mk (some 10) none false (X.v (A.mov (O.t 4)))), (I.mk (some 11) none false (X.v (A.idxA (O.t 1) (O.t 10) 2 1))), (I.mk (some 12) none false (X.v (A.load Sh.s (O.t 11)))), (I.mk (some 13) none false (X.v (A.idxA (O.t 3) (O.t 9) 2 1))), (I.mk none none false (X.store Sh.s (O.t 13) (O.t 12)))] [])) A59_4)
def A59_1 : AC := (AC.seq (AC.seq (AC.reg [] [(I.mk (some 5) none false (X.v (A.mov (O.t 4)))), (I.mk (some 6) none false (X.v (A.bin BinOp.lss (O.t 5) (O.k (V.int IntKind.i64 (Int.ofNat 2))))))] []) A59_2) A59_3)
def A59_5 : AC := (AC.seq (AC.reg [] [(I.mk (some 14) none false (X.v (A.load (Sh.ag [Sh.s, Sh.s]) (O.t 3)))), (I.mk none none false (X.store (Sh.ag [Sh.s, Sh.s]) (O.t 2) (O.t 14)))] []) AC.ret)
def A59_8 : AC := (AC.block 0 (AC.loop A59_1))
def A59_7 : AC := (AC.seq (AC.seq (AC.reg [] [(I.mk (some 4) none false (X.v (A.mov (O.k (V.int IntKind.i64 (Int.ofNat 0))))))] []) A59_8) A59_5)
def A59_6 : AC := (AC.seq (AC.reg [.clr [3]] [(I.mk (some 3) none false (X.alloc (V.agg [(V.int IntKind.i64 (Int.ofNat 0)), (V.int IntKind.i64 (Int.ofNat 0))])))] []) A59_7)
def A59 : AC := (AC.seq (AC.reg [.clr [1, 2]] [(I.mk (some 1) none false (X.box (O.t 0))), (I.mk (some 2) none false (X.alloc (V.agg [(V.int IntKind.i64 (Int.ofNat 0)), (V.int IntKind.i64 (Int.ofNat 0))])))] []) A59_6)
def an59 : List An := [{ id := 0, pre := [.clr [1, 2]], ep := [] }, { id := 1, pre := [.clr [3]], ep := [] }]
theorem c59 : cC Try.prog Try.f59.ntmps an59 (Try.f59.body.getD .skip) = some A59 := by rfl
structure H59 (D : Den) (σ : Sig) (F : Nat) : Prop where
  mk ::
abbrev R59 (r : (Int × Int)) : (Nat → V) → Prop := RR Try.prog [.cell 2 50] 0 true (Enc.enc (r : (Int × Int)))
section
variable {D : Den} {σ : Sig} {F : Nat} {r : (Int × Int)}
def w_toIntA2_l1 (F : Nat) (a_1 : (Int × Int))  : Nat → Int → Int → Int → Option (Int × Int)
  | 0, _, _, _ => none
  | k + 1, out_2, i_3, out_6 =>
    bif decide (i_3 < 2) then
      (idx [a_1.1, a_1.2] i_3).bind fun e_9 =>
      (idx [out_2, out_6] i_3).bind fun e_10 =>
      (w_toIntA2_l1 F a_1 k) (bif i_3 == 0 then e_9 else out_2) (w64 (i_3 + 1)) (bif i_3 == 1 then e_9 else out_6)
    else
      some (out_2, out_6)
theorem t_f59_l1 (H : H59 D σ F) (a_1 : (Int × Int))  : ∀ (k : Nat) (out_2 : Int) (i_3 : Int) (out_6 : Int) (s : Nat → V), Facts [(1, (.ref (.bx 1) 0 [] (.agg [(.int .i64 a_1.1), (.int .i64 a_1.2)]))), (2, (.ref (.bx 2) 0 [] (.agg [(.int .i64 0), (.int .i64 0)]))), (3, (.ref (.bx 3) 0 [] (.agg [(.int .i64 out_2), (.int .i64 out_6)]))), (4, (.int .i64 i_3))] s → w_toIntA2_l1 F a_1 k out_2 i_3 out_6 = some r → Run D σ (R59 r) (.run A59_1 [.lp A59_1, .bk 0, .sq A59_5]) s := by
  intro k
  induction k with
  | zero => intro out_2 i_3 out_6 s _ h; exact nomatch (h : (none : Option _) = some r)
  | succ k ih =>
    intro out_2 i_3 out_6 s hs h
    rw [w_toIntA2_l1] at h
    obtain ⟨h1, h2, h3, h4⟩ := hs
    refine .seq ?_
    refine .seq ?_
    refine run_reg ?_
    refine e_end ?_
    refine g_v1 (t := 4) (u := (.int .i64 i_3)) (.int .i64 i_3) h4 rfl rfl ?_
    refine g_v1 (t := 5) (u := (.int .i64 i_3)) (.bool (decide (i_3 < 2))) rfl rfl rfl ?_
    refine g_end ?_
    refine e_end ?_
    refine renew [(1, (.ref (.bx 1) 0 [] (.agg [(.int .i64 a_1.1), (.int .i64 a_1.2)]))), (2, (.ref (.bx 2) 0 [] (.agg [(.int .i64 0), (.int .i64 0)]))), (3, (.ref (.bx 3) 0 [] (.agg [(.int .i64 out_2), (.int .i64 out_6)]))), (4, (.int .i64 i_3)), (6, (.bool (decide (i_3 < 2))))] ⟨h1, h2, h3, h4, rfl⟩ ?_
    rintro s ⟨h1, h2, h3, h4, h6⟩
    refine .nsq ?_
    refine run_cond (t := decide (i_3 < 2)) h6 h (fun h => ?_) (fun h => ?_)
    · refine .skip ?_
      refine .nsq ?_
      refine .seq ?_
      refine .block ?_
      refine run_reg ?_
      refine e_end ?_
      refine g_v1 (t := 4) (u := (.int .i64 i_3)) (.int .i64 i_3) h4 rfl rfl ?_
      refine g_v1 (t := 4) (u := (.int .i64 i_3)) (.int .i64 i_3) h4 rfl rfl ?_
      obtain ⟨e_9, E_e_9, h⟩ := bind_some h
      refine g_v (.ref (.bx 1) 0 [i_3.toNat] (.int .i64 e_9)) (ev_idxA (xs := [a_1.1, a_1.2]) (a := e_9) (n := i_3) (q := []) h1 rfl E_e_9 rfl rfl rfl) ?_
      refine g_v1 (t := 11) (u := (.ref (.bx 1) 0 [i_3.toNat] (.int .i64 e_9))) (.int .i64 e_9) rfl rfl rfl ?_
      obtain ⟨e_10, E_e_10, h⟩ := bind_some h
      refine g_v (.ref (.bx 3) 0 [i_3.toNat] (.int .i64 e_10)) (ev_idxA (xs := [out_2, out_6]) (a := e_10) (n := i_3) (q := []) h3 rfl E_e_10 rfl rfl rfl) ?_
      refine g_store (.int .i64 e_9) (rd_of rfl rfl) (rd_of rfl rfl) (by refine ⟨by decide, by decide, rfl, rfl, rfl, ?_⟩; first | rfl | simp [V.toks, V.tokss, Enc.toks_enc]) ?_
      refine g_end ?_
      refine e_end ?_
      refine renew [(1, (.ref (.bx 1) 0 [] (.agg [(.int .i64 a_1.1), (.int .i64 a_1.2)]))), (2, (.ref (.bx 2) 0 [] (.agg [(.int .i64 0), (.int .i64 0)]))), (3, (.ref (.bx 3) 0 [] (.agg [(.int .i64 (bif i_3 == 0 then e_9 else out_2)), (.int .i64 (bif i_3 == 1 then e_9 else out_6))]))), (4, (.int .i64 i_3))] ⟨(keep_mut h1 rfl), (keep_mut h2 rfl), (keep_mut h3 (mut_ix2 E_e_10 rfl)), (keep_mut h4 rfl)⟩ ?_
      rintro s ⟨h1, h2, h3, h4⟩
      refine .nbk ?_
      refine .nsq ?_
      refine run_reg ?_
      refine e_end ?_
      refine g_v1 (t := 4) (u := (.int .i64 i_3)) (.int .i64 i_3) h4 rfl rfl ?_
      refine g_v1 (t := 7) (u := (.int .i64 i_3)) (.int .i64 (w64 (i_3 + 1))) rfl rfl rfl ?_
      refine g_v1 (t := 8) (u := (.int .i64 (w64 (i_3 + 1)))) (.int .i64 (w64 (i_3 + 1))) rfl rfl rfl ?_
      refine g_end ?_
      refine e_end ?_
      refine renew [(1, (.ref (.bx 1) 0 [] (.agg [(.int .i64 a_1.1), (.int .i64 a_1.2)]))), (2, (.ref (.bx 2) 0 [] (.agg [(.int .i64 0), (.int .i64 0)]))), (3, (.ref (.bx 3) 0 [] (.agg [(.int .i64 (bif i_3 == 0 then e_9 else out_2)), (.int .i64 (bif i_3 == 1 then e_9 else out_6))]))), (4, (.int .i64 (w64 (i_3 + 1))))] ⟨h1, h2, h3, rfl⟩ ?_
      rintro s ⟨h1, h2, h3, h4⟩
      refine .nlp ?_
      exact ih (bif i_3 == 0 then e_9 else out_2) (w64 (i_3 + 1)) (bif i_3 == 1 then e_9 else out_6) _ ⟨h1, h2, h3, h4⟩ h
    · refine .exit ?_
      refine .esq ?_
      refine .elp ?_
      refine .ebk ?_
      refine .nsq ?_
      refine .seq ?_
      refine run_reg ?_
      refine e_end ?_
      refine g_v1 (t := 3) (u := (.ref (.bx 3) 0 [] (.agg [(.int .i64 out_2), (.int .i64 out_6)]))) (.agg [(.int .i64 out_2), (.int .i64 out_6)]) h3 rfl rfl ?_
      refine g_store (.agg [(.int .i64 out_2), (.int .i64 out_6)]) (rd_of h2 rfl) (rd_of rfl rfl) (by refine ⟨by decide, by decide, rfl, rfl, rfl, ?_⟩; first | rfl | simp [V.toks, V.tokss, Enc.toks_enc]) ?_
      refine g_end ?_
      refine e_end ?_
      refine renew [(2, (.ref (.bx 2) 0 [] (.agg [(.int .i64 out_2), (.int .i64 out_6)])))] (keep_mut h2 rfl) ?_
      rintro s h2
      refine .nsq ?_
      refine .ret ?_
      have hr := Option.some.inj h
      subst hr
      exact rrA (res_cell h2 rfl) (fin_ret1 (fin_enc (x := ((out_2, out_6) : (Int × Int)))))
def w_toIntA2 (F : Nat) (a_1 : (Int × Int)) : Option (Int × Int) :=
  w_toIntA2_l1 F a_1 F 0 0 0
theorem t59 (H : H59 D σ F) (a_1 : (Int × Int)) (s : Nat → V) (hs : Facts [(0, (.agg [(.int .i64 a_1.1), (.int .i64 a_1.2)]))] s) (h : w_toIntA2 F a_1 = some r) : Run D σ (R59 r) (.run A59 []) s := by
  unfold w_toIntA2 at h
  have h0 := hs
  refine .seq ?_
  refine run_reg ?_
  refine e_clr ?_
  refine e_end ?_
  refine g_box (.agg [(.int .i64 a_1.1), (.int .i64 a_1.2)]) (rd_of (keep_clear (s := s) (pk := [1, 2]) h0 rfl (map_agg (maps_cons rfl (maps_cons rfl maps_nil)))) rfl) (gone_clear (s := s) (pk := [1, 2]) (t := 1) rfl) rfl ?_
  refine g_alloc (gone_clear (s := s) (pk := [1, 2]) (t := 2) rfl) ?_
  refine g_end ?_
  refine e_end ?_
  refine renew [(1, (.ref (.bx 1) 0 [] (.agg [(.int .i64 a_1.1), (.int .i64 a_1.2)]))), (2, (.ref (.bx 2) 0 [] (.agg [(.int .i64 0), (.int .i64 0)])))] ⟨rfl, rfl⟩ ?_
  rintro s ⟨h1, h2⟩
  refine .nsq ?_
  refine .seq ?_
  refine run_reg ?_
  refine e_clr ?_
  refine e_end ?_
  refine g_alloc (gone_clear (s := s) (pk := [3]) (t := 3) rfl) ?_
  refine g_end ?_
  refine e_end ?_
  refine renew [(1, (.ref (.bx 1) 0 [] (.agg [(.int .i64 a_1.1), (.int .i64 a_1.2)]))), (2, (.ref (.bx 2) 0 [] (.agg [(.int .i64 0), (.int .i64 0)]))), (3, (.ref (.bx 3) 0 [] (.agg [(.int .i64 0), (.int .i64 0)])))] ⟨(keep_clear (s := s) (pk := [3]) h1 rfl (map_bx rfl (map_agg (maps_cons rfl (maps_cons rfl maps_nil))))), (keep_clear (s := s) (pk := [3]) h2 rfl (map_bx rfl (map_agg (maps_cons rfl (maps_cons rfl maps_nil))))), rfl⟩ ?_
  rintro s ⟨h1, h2, h3⟩
  refine .nsq ?_
  refine .seq ?_
  refine .seq ?_
  refine run_reg ?_
  refine e_end ?_
  refine g_v0 (.int .i64 0) rfl rfl ?_
  refine g_end ?_
  refine e_end ?_
  refine renew [(1, (.ref (.bx 1) 0 [] (.agg [(.int .i64 a_1.1), (.int .i64 a_1.2)]))), (2, (.ref (.bx 2) 0 [] (.agg [(.int .i64 0), (.int .i64 0)]))), (3, (.ref (.bx 3) 0 [] (.agg [(.int .i64 0), (.int .i64 0)]))), (4, (.int .i64 0))] ⟨h1, h2, h3, rfl⟩ ?_
  rintro s ⟨h1, h2, h3, h4⟩
  refine .nsq ?_
  refine .block ?_
  refine .loop ?_
  exact t_f59_l1 H a_1 F 0 0 0 _ ⟨h1, h2, h3, h4⟩ h
end
def e59 (F : Nat) : Ent := ⟨59, dn1 (w_toIntA2 F) (fun (r : (Int × Int)) => (Enc.enc (r : (Int × Int)))), 0, true⟩
theorem o59 {D : Den} {σ : Sig} {F : Nat} (hF : Fits2 Try.prog D σ) (H : H59 D σ F) : (e59 F).Ok Try.prog := by
  refine ⟨fun args r h => ?_, ⟨Try.f59, Try.func59, rfl, rfl⟩⟩
  obtain ⟨x0, y, rfl, hy, rfl⟩ := dn1_open h
  exact contract_run hF (by kernel_rfl) Try.func59 rfl c59 (show 1 ≤ Try.f59.ntmps by decide) (t59 H x0 _ rfl hy)
/- loop.example/g01109/laws.toIntA2S -/
def A32_2 : AC := (AC.cond (O.t 11) AC.skip (AC.exit 0))
def A32_4 : AC := (AC.reg [] [(I.mk (some 12) none false (X.v (A.mov (O.t 4)))), (I.mk (some 13) none false (X.v (A.bin BinOp.add (O.t 12) (O.k (V.int IntKind.i64 (Int.ofNat 1)))))), (I.mk (some 4) none false (X.v (A.mov (O.t 13))))] [])
def A32_3 : AC := (AC.seq (AC.block 1 (AC.reg [] [(I.mk (some 14) none false (X.v (A.mov (O.t 3)))), (I.mk (some 15) none false (X.v (A.mov (O.t 4)))), (I.mk (some 16) none false (X.v (A.mov (O.t 0)))), (I.mk (some 17) none false (X.v (A.mov (O.t 4)))), (I.mk (some 18) none false (X.v (A.idx (O.t 16) (O.t 17) 2))), (I.mk (some 19) none false (X.v (A.load (Sh.ag [Sh.s, Sh.s]) (O.t 18)))), (I.mk (some 20) none false (X.call (O.k (V.fn 59 [] [])) [(O.t 19)])), (I.mk (some 21) none false (X.v (A.idx (O.t 14) (O.t 15) 2))), (I.mk none none false (X.store (Sh.ag [Sh.s, Sh.s]) (O.t 21) (O.t 20)))] [])) A32_4)
def A32_1 : AC := (AC.seq (AC.seq (AC.reg [] [(I.mk (some 8) none false (X.v (A.mov (O.t 4)))), (I.mk (some 9) none false (X.v (A.mov (O.t 0)))), (I.mk (some 10) none false (X.v (A.len (O.t 9)))), (I.mk (some 11) none false (X.v (A.bin BinOp.lss (O.t 8) (O.t 10))))] []) A32_2) A32_3)
def A32_5 : AC := (AC.seq (AC.reg [] [(I.mk (some 22) none false (X.v (A.mov (O.t 3)))), (I.mk (some 2) none false (X.v (A.mov (O.t 22))))] [.home 3 2]) AC.ret)
def A32_8 : AC := (AC.block 0 (AC.loop A32_1))
def A32_7 : AC := (AC.seq (AC.seq (AC.reg [] [(I.mk (some 4) none false (X.v (A.mov (O.k (V.int IntKind.i64 (Int.ofNat 0))))))] []) A32_8) A32_5)
def A32_6 : AC := (AC.seq (AC.reg [.clr [7]] [(I.mk (some 5) none false (X.v (A.mov (O.t 0)))), (I.mk (some 6) none false (X.v (A.len (O.t 5)))), (I.mk (some 7) none false (X.mk (O.t 6) (V.agg [(V.int IntKind.i64 (Int.ofNat 0)), (V.int IntKind.i64 (Int.ofNat 0))]))), (I.mk (some 3) none false (X.v (A.mov (O.t 7))))] [.home 7 3]) A32_7)
def A32 : AC := (AC.seq (AC.reg [] [(I.mk (some 2) none false (X.v (A.mov (O.k (V.sl Tok.nl (Sh.ag [Sh.s, Sh.s]) 0 [])))))] []) A32_6)
def an32 : List An := [{ id := 1, pre := [.clr [7]], ep := [.home 7 3] }, { id := 6, pre := [], ep := [.home 3 2] }]
theorem c32 : cC Try.prog Try.f32.ntmps an32 (Try.f32.body.getD .skip) = some A32 := by rfl
structure H32 (D : Den) (σ : Sig) (F : Nat) : Prop where
  c59 : ∀ x0 r, w_toIntA2 F x0 = some r → D 59 [Enc.enc x0] = some (Enc.enc (r : (Int × Int)))
  g59 : σ 59 = some (0, true)
abbrev R32 (r : (List (Int × Int))) : (Nat → V) → Prop := RR Try.prog [.tmp 2] 0 true (Enc.enc (r : (List (Int × Int))))
section
variable {D : Den} {σ : Sig} {F : Nat} {r : (List (Int × Int))}
def w_toIntA2S_l1 (F : Nat) (a_1 : (List (Int × Int)))  : Nat → (List (Int × Int)) → Int → Option (List (Int × Int))
  | 0, _, _ => none
  | k + 1, out_6, i_7 =>
    bif decide (i_7 < (a_1.length : Int)) then
      (idx a_1 i_7).bind fun e_11 =>
      (w_toIntA2 F e_11).bind fun r_12 =>
      (idx out_6 i_7).bind fun e_13 =>
      (w_toIntA2S_l1 F a_1 k) (out_6.set i_7.toNat r_12) (w64 (i_7 + 1))
    else
      some out_6
theorem t_f32_l1 (H : H32 D σ F) (a_1 : (List (Int × Int)))  : ∀ (k : Nat) (out_6 : (List (Int × Int))) (i_7 : Int) (s : Nat → V), Facts [(0, (Enc.enc (a_1 : List (Int × Int)))), (2, (.sl .nl (Enc.shp (Int × Int)) 0 [])), (3, (encO (.at 3 []) (.of (out_6 : List (Int × Int))))), (4, (.int .i64 i_7))] s → w_toIntA2S_l1 F a_1 k out_6 i_7 = some r → Run D σ (R32 r) (.run A32_1 [.lp A32_1, .bk 0, .sq A32_5]) s := by
  intro k
  induction k with
  | zero => intro out_6 i_7 s _ h; exact nomatch (h : (none : Option _) = some r)
  | succ k ih =>
    intro out_6 i_7 s hs h
    rw [w_toIntA2S_l1] at h
    obtain ⟨h0, h2, h3, h4⟩ := hs
    refine .seq ?_
    refine .seq ?_
    refine run_reg ?_
    refine e_end ?_
    refine g_v1 (t := 4) (u := (.int .i64 i_7)) (.int .i64 i_7) h4 rfl rfl ?_
    refine g_v1 (t := 0) (u := (Enc.enc (a_1 : List (Int × Int)))) (Enc.enc (a_1 : List (Int × Int))) h0 rfl rfl ?_
    refine g_v (.int .i64 (a_1.length : Int)) (ev_len (xs := a_1) rfl) ?_
    refine g_v2 (t1 := 8) (t2 := 10) (u1 := (.int .i64 i_7)) (u2 := (.int .i64 (a_1.length : Int))) (.bool (decide (i_7 < (a_1.length : Int)))) rfl rfl rfl rfl ?_
    refine g_end ?_
    refine e_end ?_
    refine renew [(0, (Enc.enc (a_1 : List (Int × Int)))), (2, (.sl .nl (Enc.shp (Int × Int)) 0 [])), (3, (encO (.at 3 []) (.of (out_6 : List (Int × Int))))), (4, (.int .i64 i_7)), (11, (.bool (decide (i_7 < (a_1.length : Int)))))] ⟨h0, h2, h3, h4, rfl⟩ ?_
    rintro s ⟨h0, h2, h3, h4, h11⟩
    refine .nsq ?_
    refine run_cond (t := decide (i_7 < (a_1.length : Int))) h11 h (fun h => ?_) (fun h => ?_)
    · refine .skip ?_
      refine .nsq ?_
      refine .seq ?_
      refine .block ?_
      refine run_reg ?_
      refine e_end ?_
      refine g_v1 (t := 3) (u := (encO (.at 3 []) (.of (out_6 : List (Int × Int))))) (encO (.at 3 []) (.of (out_6 : List (Int × Int)))) h3 rfl rfl ?_
      refine g_v1 (t := 4) (u := (.int .i64 i_7)) (.int .i64 i_7) h4 rfl rfl ?_
      refine g_v1 (t := 0) (u := (Enc.enc (a_1 : List (Int × Int)))) (Enc.enc (a_1 : List (Int × Int))) h0 rfl rfl ?_
      refine g_v1 (t := 4) (u := (.int .i64 i_7)) (.int .i64 i_7) h4 rfl rfl ?_
      obtain ⟨e_11, E_e_11, h⟩ := bind_some h
      refine g_v (.ref .sh 0 [] (.agg [(.int .i64 e_11.1), (.int .i64 e_11.2)])) (ev_idx (t := .sh) (lo := 0) (xs := a_1) rfl rfl E_e_11 rfl rfl) ?_
      refine g_v1 (t := 18) (u := (.ref .sh 0 [] (.agg [(.int .i64 e_11.1), (.int .i64 e_11.2)]))) (.agg [(.int .i64 e_11.1), (.int .i64 e_11.2)]) rfl rfl rfl ?_
      obtain ⟨r_12, E_r_12, h⟩ := bind_some h
      refine g_call (m := 0) (al := true) (r := (Enc.enc (r_12 : (Int × Int)))) [Enc.enc (e_11 : (Int × Int))] (ta_cons (v := (.agg [(.int .i64 e_11.1), (.int .i64 e_11.2)])) rfl rfl (Enc.erase_enc (e_11 : (Int × Int))) ta_nil) (H.c59 _ _ E_r_12) H.g59 (hal_of (ht_cons (v := (.agg [(.int .i64 e_11.1), (.int .i64 e_11.2)])) rfl rfl rfl ht_nil)) rfl rfl rfl ?_
      obtain ⟨e_13, E_e_13, h⟩ := bind_some h
      refine g_v (.ref (.at 3 []) i_7.toNat [] (.agg [(.int .i64 e_13.1), (.int .i64 e_13.2)])) (ev_idxO (o := (.of out_6)) rfl rfl E_e_13 rfl) ?_
      refine g_store (.agg [(.int .i64 r_12.1), (.int .i64 r_12.2)]) (rd_of rfl rfl) (rd_of rfl rfl) (by refine ⟨by decide, by decide, rfl, rfl, rfl, ?_⟩; first | rfl | simp [V.toks, V.tokss, Enc.toks_enc]) ?_
      refine g_end ?_
      refine e_end ?_
      refine renew [(0, (Enc.enc (a_1 : List (Int × Int)))), (2, (.sl .nl (Enc.shp (Int × Int)) 0 [])), (3, (encO (.at 3 []) (.of (out_6.set i_7.toNat r_12 : List (Int × Int))))), (4, (.int .i64 i_7))] ⟨(keep_mut h0 (Enc.mut_enc _ _ _ _ (a_1 : List (Int × Int)))), (keep_mut h2 rfl), (keep_mut h3 mut_own), (keep_mut h4 rfl)⟩ ?_
      rintro s ⟨h0, h2, h3, h4⟩
      refine .nbk ?_
      refine .nsq ?_
      refine run_reg ?_
      refine e_end ?_
      refine g_v1 (t := 4) (u := (.int .i64 i_7)) (.int .i64 i_7) h4 rfl rfl ?_
      refine g_v1 (t := 12) (u := (.int .i64 i_7)) (.int .i64 (w64 (i_7 + 1))) rfl rfl rfl ?_
      refine g_v1 (t := 13) (u := (.int .i64 (w64 (i_7 + 1)))) (.int .i64 (w64 (i_7 + 1))) rfl rfl rfl ?_
      refine g_end ?_
      refine e_end ?_
      refine renew [(0, (Enc.enc (a_1 : List (Int × Int)))), (2, (.sl .nl (Enc.shp (Int × Int)) 0 [])), (3, (encO (.at 3 []) (.of (out_6.set i_7.toNat r_12 : List (Int × Int))))), (4, (.int .i64 (w64 (i_7 + 1))))] ⟨h0, h2, h3, rfl⟩ ?_
      rintro s ⟨h0, h2, h3, h4⟩
      refine .nlp ?_
      exact ih (out_6.set i_7.toNat r_12) (w64 (i_7 + 1)) _ ⟨h0, h2, h3, h4⟩ h
    · refine .exit ?_
      refine .esq ?_
      refine .elp ?_
      refine .ebk ?_
      refine .nsq ?_
      refine .seq ?_
      refine run_reg ?_
      refine e_end ?_
      refine g_v1 (t := 3) (u := (encO (.at 3 []) (.of (out_6 : List (Int × Int))))) (encO (.at 3 []) (.of (out_6 : List (Int × Int)))) h3 rfl rfl ?_
      refine g_v1 (t := 22) (u := (encO (.at 3 []) (.of (out_6 : List (Int × Int))))) (encO (.at 3 []) (.of (out_6 : List (Int × Int)))) rfl rfl rfl ?_
      refine g_end ?_
      refine e_home (r := 3) (x := 2) (v := (encO (.at 3 []) (.of (out_6 : List (Int × Int))))) (by exact rfl) rfl (fun s_3 hg_3 => ?_)
      refine e_end ?_
      refine renew [(2, (encO (.at 2 []) (.of (out_6 : List (Int × Int)))))] (hg_3 2 (encO (.at 3 []) (.of (out_6 : List (Int × Int)))) (encO (.at 2 []) (.of (out_6 : List (Int × Int)))) rfl (map_encO (r := 3) (p := []) rfl rfl)) ?_
      rintro s h2
      refine .nsq ?_
      refine .ret ?_
      have hr := Option.some.inj h
      subst hr
      exact rrA (res_tmp h2) (fin_ret1 (fin_own (o := .of out_6)))
def w_toIntA2S (F : Nat) (a_1 : (List (Int × Int))) : Option (List (Int × Int)) :=
  (mkN (a_1.length : Int) (0, 0)).bind fun mk_2 =>
  w_toIntA2S_l1 F a_1 F mk_2 0
theorem t32 (H : H32 D σ F) (a_1 : (List (Int × Int))) (s : Nat → V) (hs : Facts [(0, (Enc.enc (a_1 : List (Int × Int))))] s) (h : w_toIntA2S F a_1 = some r) : Run D σ (R32 r) (.run A32 []) s := by
  unfold w_toIntA2S at h
  have h0 := hs
  refine .seq ?_
  refine run_reg ?_
  refine e_end ?_
  refine g_v0 (.sl .nl (Enc.shp (Int × Int)) 0 []) rfl rfl ?_
  refine g_end ?_
  refine e_end ?_
  refine renew [(0, (Enc.enc (a_1 : List (Int × Int)))), (2, (.sl .nl (Enc.shp (Int × Int)) 0 []))] ⟨h0, rfl⟩ ?_
  rintro s ⟨h0, h2⟩
  refine .nsq ?_
  refine .seq ?_
  refine run_reg ?_
  refine e_clr ?_
  refine e_end ?_
  refine g_v1 (t := 0) (u := (Enc.enc (a_1 : List (Int × Int)))) (Enc.enc (a_1 : List (Int × Int))) (keep_clear (s := s) (pk := [7]) h0 rfl (Enc.map_enc _ (a_1 : List (Int × Int)))) rfl rfl ?_
  refine g_v (.int .i64 (a_1.length : Int)) (ev_len (xs := a_1) rfl) ?_
  obtain ⟨mk_2, E_mk_2, h⟩ := bind_some h
  refine g_mk ((0, 0) : (Int × Int)) rfl rfl (gone_clear (s := s) (pk := [7]) (t := 7) rfl) E_mk_2 ?_
  refine g_v1 (t := 7) (u := (encO (.at 7 []) (.of (mk_2 : List (Int × Int))))) (encO (.at 7 []) (.of (mk_2 : List (Int × Int)))) rfl rfl rfl ?_
  refine g_end ?_
  refine e_home (r := 7) (x := 3) (v := (encO (.at 7 []) (.of (mk_2 : List (Int × Int))))) (by exact rfl) rfl (fun s_2 hg_2 => ?_)
  refine e_end ?_
  refine renew [(0, (Enc.enc (a_1 : List (Int × Int)))), (2, (.sl .nl (Enc.shp (Int × Int)) 0 [])), (3, (encO (.at 3 []) (.of (mk_2 : List (Int × Int)))))] ⟨(hg_2 0 (Enc.enc (a_1 : List (Int × Int))) (Enc.enc (a_1 : List (Int × Int))) (keep_clear (s := s) (pk := [7]) h0 rfl (Enc.map_enc _ (a_1 : List (Int × Int)))) (Enc.map_enc _ (a_1 : List (Int × Int)))), (hg_2 2 (.sl .nl (Enc.shp (Int × Int)) 0 []) (.sl .nl (Enc.shp (Int × Int)) 0 []) (keep_clear (s := s) (pk := [7]) h2 rfl rfl) rfl), (hg_2 3 (encO (.at 7 []) (.of (mk_2 : List (Int × Int)))) (encO (.at 3 []) (.of (mk_2 : List (Int × Int)))) rfl (map_encO (r := 7) (p := []) rfl rfl))⟩ ?_
  rintro s ⟨h0, h2, h3⟩
  refine .nsq ?_
  refine .seq ?_
  refine .seq ?_
  refine run_reg ?_
  refine e_end ?_
  refine g_v0 (.int .i64 0) rfl rfl ?_
  refine g_end ?_
  refine e_end ?_
  refine renew [(0, (Enc.enc (a_1 : List (Int × Int)))), (2, (.sl .nl (Enc.shp (Int × Int)) 0 [])), (3, (encO (.at 3 []) (.of (mk_2 : List (Int × Int))))), (4, (.int .i64 0))] ⟨h0, h2, h3, rfl⟩ ?_
  rintro s ⟨h0, h2, h3, h4⟩
  refine .nsq ?_
  refine .block ?_
  refine .loop ?_
  exact t_f32_l1 H a_1 F mk_2 0 _ ⟨h0, h2, h3, h4⟩ h
end
def e32 (F : Nat) : Ent := ⟨32, dn1 (w_toIntA2S F) (fun (r : (List (Int × Int))) => (Enc.enc (r : (List (Int × Int))))), 0, true⟩
theorem o32 {D : Den} {σ : Sig} {F : Nat} (hF : Fits2 Try.prog D σ) (H : H32 D σ F) : (e32 F).Ok Try.prog := by
  refine ⟨fun args r h => ?_, ⟨Try.f32, Try.func32, rfl, rfl⟩⟩
  obtain ⟨x0, y, rfl, hy, rfl⟩ := dn1_open h
  exact contract_run hF (by kernel_rfl) Try.func32 rfl c32 (show 1 ≤ Try.f32.ntmps by decide) (t32 H x0 _ rfl hy)
/- loop.example/g01109/laws.toGraph -/
def A11_4 : AC := (AC.seq (AC.reg [] [(I.mk (some 11) none false (X.v (A.load (Sh.ag [Sh.s, Sh.p]) (O.t 3)))), (I.mk none none false (X.store (Sh.ag [Sh.s, Sh.p]) (O.t 2) (O.t 11)))] []) AC.ret)
def A11_3 : AC := (AC.seq (AC.reg [] [(I.mk (some 7) none false (X.v (A.fld (O.t 1) 1 1))), (I.mk (some 8) none false (X.v (A.load Sh.p (O.t 7)))), (I.mk (some 9) none false (X.call (O.k (V.fn 32 [] [])) [(O.t 8)])), (I.mk (some 10) none false (X.v (A.fld (O.t 3) 1 1))), (I.mk none none false (X.store Sh.p (O.t 10) (O.t 9)))] []) A11_4)
def A11_2 : AC := (AC.seq (AC.reg [] [(I.mk (some 4) none false (X.v (A.fld (O.t 1) 0 0))), (I.mk (some 5) none false (X.v (A.load Sh.s (O.t 4)))), (I.mk (some 6) none false (X.v (A.fld (O.t 3) 0 0))), (I.mk none none false (X.store Sh.s (O.t 6) (O.t 5)))] []) A11_3)
def A11_1 : AC := (AC.seq (AC.reg [.clr [3]] [(I.mk (some 3) none false (X.alloc (V.agg [(V.int IntKind.i64 (Int.ofNat 0)), (V.sl Tok.nl (Sh.ag [Sh.s, Sh.s]) 0 [])])))] []) A11_2)
def A11 : AC := (AC.seq (AC.reg [.clr [1, 2]] [(I.mk (some 1) none false (X.box (O.t 0))), (I.mk (some 2) none false (X.alloc (V.agg [(V.int IntKind.i64 (Int.ofNat 0)), (V.sl Tok.nl (Sh.ag [Sh.s, Sh.s]) 0 [])])))] []) A11_1)
def an11 : List An := [{ id := 0, pre := [.clr [1, 2]], ep := [] }, { id := 1, pre := [.clr [3]], ep := [] }]
theorem c11 : cC Try.prog Try.f11.ntmps an11 (Try.f11.body.getD .skip) = some A11 := by rfl
structure H11 (D : Den) (σ : Sig) (F : Nat) : Prop where
  c32 : ∀ x0 r, w_toIntA2S F x0 = some r → D 32 [Enc.enc x0] = some (Enc.enc (r : (List (Int × Int))))
  g32 : σ 32 = some (0, true)
abbrev R11 (r : (Int × (List (Int × Int)))) : (Nat → V) → Prop := RR Try.prog [.cell 2 29] 0 true (Enc.enc (r : (Int × (List (Int × Int)))))
section
variable {D : Den} {σ : Sig} {F : Nat} {r : (Int × (List (Int × Int)))}
def w_toGraph (F : Nat) (a_1 : (Int × (List (Int × Int)))) : Option (Int × (List (Int × Int))) :=
  (w_toIntA2S F a_1.2).bind fun r_2 =>
  some (a_1.1, r_2)
theorem t11 (H : H11 D σ F) (a_1 : (Int × (List (Int × Int)))) (s : Nat → V) (hs : Facts [(0, (.agg [(.int .i64 a_1.1), (Enc.enc (a_1.2 : List (Int × Int)))]))] s) (h : w_toGraph F a_1 = some r) : Run D σ (R11 r) (.run A11 []) s := by
  unfold w_toGraph at h
  have h0 := hs
  refine .seq ?_
  refine run_reg ?_
  refine e_clr ?_
  refine e_end ?_
  refine g_box (.agg [(.int .i64 a_1.1), (Enc.enc (a_1.2 : List (Int × Int)))]) (rd_of (keep_clear (s := s) (pk := [1, 2]) h0 rfl (map_agg (maps_cons rfl (maps_cons (Enc.map_enc _ (a_1.2 : List (Int × Int))) maps_nil)))) rfl) (gone_clear (s := s) (pk := [1, 2]) (t := 1) rfl) rfl ?_
  refine g_alloc (gone_clear (s := s) (pk := [1, 2]) (t := 2) rfl) ?_
  refine g_end ?_
  refine e_end ?_
  refine renew [(1, (.ref (.bx 1) 0 [] (.agg [(.int .i64 a_1.1), (Enc.enc (a_1.2 : List (Int × Int)))]))), (2, (.ref (.bx 2) 0 [] (.agg [(.int .i64 0), (.sl .nl (Enc.shp (Int × Int)) 0 [])])))] ⟨rfl, rfl⟩ ?_
  rintro s ⟨h1, h2⟩
  refine .nsq ?_
  refine .seq ?_
  refine run_reg ?_
  refine e_clr ?_
  refine e_end ?_
  refine g_alloc (gone_clear (s := s) (pk := [3]) (t := 3) rfl) ?_
  refine g_end ?_
  refine e_end ?_
  refine renew [(1, (.ref (.bx 1) 0 [] (.agg [(.int .i64 a_1.1), (Enc.enc (a_1.2 : List (Int × Int)))]))), (2, (.ref (.bx 2) 0 [] (.agg [(.int .i64 0), (.sl .nl (Enc.shp (Int × Int)) 0 [])]))), (3, (.ref (.bx 3) 0 [] (.agg [(.int .i64 0), (.sl .nl (Enc.shp (Int × Int)) 0 [])])))] ⟨(keep_clear (s := s) (pk := [3]) h1 rfl (map_bx rfl (map_agg (maps_cons rfl (maps_cons (Enc.map_enc _ (a_1.2 : List (Int × Int))) maps_nil))))), (keep_clear (s := s) (pk := [3]) h2 rfl (map_bx rfl (map_agg (maps_cons rfl (maps_cons rfl maps_nil))))), rfl⟩ ?_
  rintro s ⟨h1, h2, h3⟩
  refine .nsq ?_
  refine .seq ?_
  refine run_reg ?_
  refine e_end ?_
  refine g_v1 (t := 1) (u := (.ref (.bx 1) 0 [] (.agg [(.int .i64 a_1.1), (Enc.enc (a_1.2 : List (Int × Int)))]))) (.ref (.bx 1) 0 [0] (.int .i64 a_1.1)) h1 rfl rfl ?_
  refine g_v1 (t := 4) (u := (.ref (.bx 1) 0 [0] (.int .i64 a_1.1))) (.int .i64 a_1.1) rfl rfl rfl ?_
  refine g_v1 (t := 3) (u := (.ref (.bx 3) 0 [] (.agg [(.int .i64 0), (.sl .nl (Enc.shp (Int × Int)) 0 [])]))) (.ref (.bx 3) 0 [0] (.int .i64 0)) h3 rfl rfl ?_
  refine g_store (.int .i64 a_1.1) (rd_of rfl rfl) (rd_of rfl rfl) (by refine ⟨by decide, by decide, rfl, rfl, rfl, ?_⟩; first | rfl | simp [V.toks, V.tokss, Enc.toks_enc]) ?_
  refine g_end ?_
  refine e_end ?_
  refine renew [(1, (.ref (.bx 1) 0 [] (.agg [(.int .i64 a_1.1), (Enc.enc (a_1.2 : List (Int × Int)))]))), (2, (.ref (.bx 2) 0 [] (.agg [(.int .i64 0), (.sl .nl (Enc.shp (Int × Int)) 0 [])]))), (3, (.ref (.bx 3) 0 [] (.agg [(.int .i64 a_1.1), (.sl .nl (Enc.shp (Int × Int)) 0 [])])))] ⟨(keep_mut h1 (mut_ref_ne rfl rfl (mut_agg (muts_cons rfl (muts_cons (Enc.mut_enc _ _ _ _ (a_1.2 : List (Int × Int))) rfl))))), (keep_mut h2 (mut_ref_ne rfl rfl (mut_agg (muts_cons rfl (muts_cons rfl rfl))))), (keep_mut h3 rfl)⟩ ?_
  rintro s ⟨h1, h2, h3⟩
  refine .nsq ?_
  refine .seq ?_
  refine run_reg ?_
  refine e_end ?_
  refine g_v1 (t := 1) (u := (.ref (.bx 1) 0 [] (.agg [(.int .i64 a_1.1), (Enc.enc (a_1.2 : List (Int × Int)))]))) (.ref (.bx 1) 0 [1] (Enc.enc (a_1.2 : List (Int × Int)))) h1 rfl rfl ?_
  refine g_v1 (t := 7) (u := (.ref (.bx 1) 0 [1] (Enc.enc (a_1.2 : List (Int × Int))))) (Enc.enc (a_1.2 : List (Int × Int))) rfl rfl rfl ?_
  obtain ⟨r_2, E_r_2, h⟩ := bind_some h
  refine g_call (m := 0) (al := true) (r := (Enc.enc (r_2 : (List (Int × Int))))) [Enc.enc (a_1.2 : (List (Int × Int)))] (ta_cons (v := (Enc.enc (a_1.2 : List (Int × Int)))) rfl rfl (Enc.erase_enc (a_1.2 : (List (Int × Int)))) ta_nil) (H.c32 _ _ E_r_2) H.g32 (hal_of (ht_cons (v := (Enc.enc (a_1.2 : List (Int × Int)))) rfl rfl rfl ht_nil)) rfl rfl rfl ?_
  refine g_v1 (t := 3) (u := (.ref (.bx 3) 0 [] (.agg [(.int .i64 a_1.1), (.sl .nl (Enc.shp (Int × Int)) 0 [])]))) (.ref (.bx 3) 0 [1] (.sl .nl (Enc.shp (Int × Int)) 0 [])) h3 rfl rfl ?_
  refine g_store (Enc.enc (r_2 : List (Int × Int))) (rd_of rfl rfl) (rd_of rfl rfl) (by refine ⟨by decide, by decide, rfl, rfl, rfl, ?_⟩; first | rfl | simp [V.toks, V.tokss, Enc.toks_enc]) ?_
  refine g_end ?_
  refine e_end ?_
  refine renew [(2, (.ref (.bx 2) 0 [] (.agg [(.int .i64 0), (.sl .nl (Enc.shp (Int × Int)) 0 [])]))), (3, (.ref (.bx 3) 0 [] (.agg [(.int .i64 a_1.1), (Enc.enc (r_2 : List (Int × Int)))])))] ⟨(keep_mut h2 (mut_ref_ne rfl rfl (mut_agg (muts_cons rfl (muts_cons rfl rfl))))), (keep_mut h3 rfl)⟩ ?_
  rintro s ⟨h2, h3⟩
  refine .nsq ?_
  refine .seq ?_
  refine run_reg ?_
  refine e_end ?_
  refine g_v1 (t := 3) (u := (.ref (.bx 3) 0 [] (.agg [(.int .i64 a_1.1), (Enc.enc (r_2 : List (Int × Int)))]))) (.agg [(.int .i64 a_1.1), (Enc.enc (r_2 : List (Int × Int)))]) h3 rfl rfl ?_
  refine g_store (.agg [(.int .i64 a_1.1), (Enc.enc (r_2 : List (Int × Int)))]) (rd_of h2 rfl) (rd_of rfl rfl) (by refine ⟨by decide, by decide, rfl, rfl, rfl, ?_⟩; first | rfl | simp [V.toks, V.tokss, Enc.toks_enc]) ?_
  refine g_end ?_
  refine e_end ?_
  refine renew [(2, (.ref (.bx 2) 0 [] (.agg [(.int .i64 a_1.1), (Enc.enc (r_2 : List (Int × Int)))])))] (keep_mut h2 rfl) ?_
  rintro s h2
  refine .nsq ?_
  refine .ret ?_
  have hr := Option.some.inj h
  subst hr
  exact rrA (res_cell h2 rfl) (fin_ret1 (fin_enc (x := ((a_1.1, r_2) : (Int × (List (Int × Int)))))))
end
def e11 (F : Nat) : Ent := ⟨11, dn1 (w_toGraph F) (fun (r : (Int × (List (Int × Int)))) => (Enc.enc (r : (Int × (List (Int × Int)))))), 0, true⟩
theorem o11 {D : Den} {σ : Sig} {F : Nat} (hF : Fits2 Try.prog D σ) (H : H11 D σ F) : (e11 F).Ok Try.prog := by
  refine ⟨fun args r h => ?_, ⟨Try.f11, Try.func11, rfl, rfl⟩⟩
  obtain ⟨x0, y, rfl, hy, rfl⟩ := dn1_open h
  exact contract_run hF (by kernel_rfl) Try.func11 rfl c11 (show 1 ≤ Try.f11.ntmps by decide) (t11 H x0 _ rfl hy)
/- loop.example/g01109/laws.toIntS -/
def A12_2 : AC := (AC.cond (O.t 11) AC.skip (AC.exit 0))
def A12_4 : AC := (AC.reg [] [(I.mk (some 12) none false (X.v (A.mov (O.t 4)))), (I.mk (some 13) none false (X.v (A.bin BinOp.add (O.t 12) (O.k (V.int IntKind.i64 (Int.ofNat 1)))))), (I.mk (some 4) none false (X.v (A.mov (O.t 13))))] [])
def A12_3 : AC := (AC.seq (AC.block 1 (AC.reg [] [(I.mk (some 14) none false (X.v (A.mov (O.t 3)))), (I.mk (some 15) none false (X.v (A.mov (O.t 4)))), (I.mk (some 16) none false (X.v (A.mov (O.t 0)))), (I.mk (some 17) none false (X.v (A.mov (O.t 4)))), (I.mk (some 18) none false (X.v (A.idx (O.t 16) (O.t 17) 1))), (I.mk (some 19) none false (X.v (A.load Sh.s (O.t 18)))), (I.mk (some 20) none false (X.v (A.idx (O.t 14) (O.t 15) 1))), (I.mk none none false (X.store Sh.s (O.t 20) (O.t 19)))] [])) A12_4)
def A12_1 : AC := (AC.seq (AC.seq (AC.reg [] [(I.mk (some 8) none false (X.v (A.mov (O.t 4)))), (I.mk (some 9) none false (X.v (A.mov (O.t 0)))), (I.mk (some 10) none false (X.v (A.len (O.t 9)))), (I.mk (some 11) none false (X.v (A.bin BinOp.lss (O.t 8) (O.t 10))))] []) A12_2) A12_3)
def A12_5 : AC := (AC.seq (AC.reg [] [(I.mk (some 21) none false (X.v (A.mov (O.t 3)))), (I.mk (some 2) none false (X.v (A.mov (O.t 21))))] [.home 3 2]) AC.ret)
def A12_8 : AC := (AC.block 0 (AC.loop A12_1))
def A12_7 : AC := (AC.seq (AC.seq (AC.reg [] [(I.mk (some 4) none false (X.v (A.mov (O.k (V.int IntKind.i64 (Int.ofNat 0))))))] []) A12_8) A12_5)
def A12_6 : AC := (AC.seq (AC.reg [.clr [7]] [(I.mk (some 5) none false (X.v (A.mov (O.t 0)))), (I.mk (some 6) none false (X.v (A.len (O.t 5)))), (I.mk (some 7) none false (X.mk (O.t 6) (V.int IntKind.i64 (Int.ofNat 0)))), (I.mk (some 3) none false (X.v (A.mov (O.t 7))))] [.home 7 3]) A12_7)
def A12 : AC := (AC.seq (AC.reg [] [(I.mk (some 2) none false (X.v (A.mov (O.k (V.sl Tok.nl Sh.s 0 [])))))] []) A12_6)
def an12 : List An := [{ id := 1, pre := [.clr [7]], ep := [.home 7 3] }, { id := 6, pre := [], ep := [.home 3 2] }]
theorem c12 : cC Try.prog Try.f12.ntmps an12 (Try.f12.body.getD .skip) = some A12 := by rfl
structure H12 (D : Den) (σ : Sig) (F : Nat) : Prop where
  mk ::
abbrev R12 (r : (List Int)) : (Nat → V) → Prop := RR Try.prog [.tmp 2] 0 true (Enc.enc (r : (List Int)))
section
variable {D : Den} {σ : Sig} {F : Nat} {r : (List Int)}
def w_toIntS_l1 (F : Nat) (a_1 : (List Int))  : Nat → (List Int) → Int → Option (List Int)
  | 0, _, _ => none
  | k + 1, out_5, i_6 =>
    bif decide (i_6 < (a_1.length : Int)) then
      (idx a_1 i_6).bind fun e_9 =>
      (idx out_5 i_6).bind fun e_10 =>
      (w_toIntS_l1 F a_1 k) (out_5.set i_6.toNat e_9) (w64 (i_6 + 1))
    else
      some out_5
theorem t_f12_l1 (H : H12 D σ F) (a_1 : (List Int))  : ∀ (k : Nat) (out_5 : (List Int)) (i_6 : Int) (s : Nat → V), Facts [(0, (Enc.enc (a_1 : List Int))), (2, (.sl .nl (Enc.shp Int) 0 [])), (3, (encO (.at 3 []) (.of (out_5 : List Int)))), (4, (.int .i64 i_6))] s → w_toIntS_l1 F a_1 k out_5 i_6 = some r → Run D σ (R12 r) (.run A12_1 [.lp A12_1, .bk 0, .sq A12_5]) s := by
  intro k
  induction k with
  | zero => intro out_5 i_6 s _ h; exact nomatch (h : (none : Option _) = some r)
  | succ k ih =>
    intro out_5 i_6 s hs h
    rw [w_toIntS_l1] at h
    obtain ⟨h0, h2, h3, h4⟩ := hs
    refine .seq ?_
    refine .seq ?_
    refine run_reg ?_
    refine e_end ?_
    refine g_v1 (t := 4) (u := (.int .i64 i_6)) (.int .i64 i_6) h4 rfl rfl ?_
    refine g_v1 (t := 0) (u := (Enc.enc (a_1 : List Int))) (Enc.enc (a_1 : List Int)) h0 rfl rfl ?_
    refine g_v (.int .i64 (a_1.length : Int)) (ev_len (xs := a_1) rfl) ?_
    refine g_v2 (t1 := 8) (t2 := 10) (u1 := (.int .i64 i_6)) (u2 := (.int .i64 (a_1.length : Int))) (.bool (decide (i_6 < (a_1.length : Int)))) rfl rfl rfl rfl ?_
    refine g_end ?_
    refine e_end ?_
    refine renew [(0, (Enc.enc (a_1 : List Int))), (2, (.sl .nl (Enc.shp Int) 0 [])), (3, (encO (.at 3 []) (.of (out_5 : List Int)))), (4, (.int .i64 i_6)), (11, (.bool (decide (i_6 < (a_1.length : Int)))))] ⟨h0, h2, h3, h4, rfl⟩ ?_
    rintro s ⟨h0, h2, h3, h4, h11⟩
    refine .nsq ?_
    refine run_cond (t := decide (i_6 < (a_1.length : Int))) h11 h (fun h => ?_) (fun h => ?_)
    · refine .skip ?_
      refine .nsq ?_
      refine .seq ?_
      refine .block ?_
      refine run_reg ?_
      refine e_end ?_
      refine g_v1 (t := 3) (u := (encO (.at 3 []) (.of (out_5 : List Int)))) (encO (.at 3 []) (.of (out_5 : List Int))) h3 rfl rfl ?_
      refine g_v1 (t := 4) (u := (.int .i64 i_6)) (.int .i64 i_6) h4 rfl rfl ?_
      refine g_v1 (t := 0) (u := (Enc.enc (a_1 : List Int))) (Enc.enc (a_1 : List Int)) h0 rfl rfl ?_
      refine g_v1 (t := 4) (u := (.int .i64 i_6)) (.int .i64 i_6) h4 rfl rfl ?_
      obtain ⟨e_9, E_e_9, h⟩ := bind_some h
      refine g_v (.ref .sh 0 [] (.int .i64 e_9)) (ev_idx (t := .sh) (lo := 0) (xs := a_1) rfl rfl E_e_9 rfl rfl) ?_
      refine g_v1 (t := 18) (u := (.ref .sh 0 [] (.int .i64 e_9))) (.int .i64 e_9) rfl rfl rfl ?_
      obtain ⟨e_10, E_e_10, h⟩ := bind_some h
      refine g_v (.ref (.at 3 []) i_6.toNat [] (.int .i64 e_10)) (ev_idxO (o := (.of out_5)) rfl rfl E_e_10 rfl) ?_
      refine g_store (.int .i64 e_9) (rd_of rfl rfl) (rd_of rfl rfl) (by refine ⟨by decide, by decide, rfl, rfl, rfl, ?_⟩; first | rfl | simp [V.toks, V.tokss, Enc.toks_enc]) ?_
      refine g_end ?_
      refine e_end ?_
      refine renew [(0, (Enc.enc (a_1 : List Int))), (2, (.sl .nl (Enc.shp Int) 0 [])), (3, (encO (.at 3 []) (.of (out_5.set i_6.toNat e_9 : List Int)))), (4, (.int .i64 i_6))] ⟨(keep_mut h0 (Enc.mut_enc _ _ _ _ (a_1 : List Int))), (keep_mut h2 rfl), (keep_mut h3 mut_own), (keep_mut h4 rfl)⟩ ?_
      rintro s ⟨h0, h2, h3, h4⟩
      refine .nbk ?_
      refine .nsq ?_
      refine run_reg ?_
      refine e_end ?_
      refine g_v1 (t := 4) (u := (.int .i64 i_6)) (.int .i64 i_6) h4 rfl rfl ?_
      refine g_v1 (t := 12) (u := (.int .i64 i_6)) (.int .i64 (w64 (i_6 + 1))) rfl rfl rfl ?_
      refine g_v1 (t := 13) (u := (.int .i64 (w64 (i_6 + 1)))) (.int .i64 (w64 (i_6 + 1))) rfl rfl rfl ?_
      refine g_end ?_
      refine e_end ?_
      refine renew [(0, (Enc.enc (a_1 : List Int))), (2, (.sl .nl (Enc.shp Int) 0 [])), (3, (encO (.at 3 []) (.of (out_5.set i_6.toNat e_9 : List Int)))), (4, (.int .i64 (w64 (i_6 + 1))))] ⟨h0, h2, h3, rfl⟩ ?_
      rintro s ⟨h0, h2, h3, h4⟩
      refine .nlp ?_
      exact ih (out_5.set i_6.toNat e_9) (w64 (i_6 + 1)) _ ⟨h0, h2, h3, h4⟩ h
    · refine .exit ?_
      refine .esq ?_
      refine .elp ?_
      refine .ebk ?_
      refine .nsq ?_
      refine .seq ?_
      refine run_reg ?_
      refine e_end ?_
      refine g_v1 (t := 3) (u := (encO (.at 3 []) (.of (out_5 : List Int)))) (encO (.at 3 []) (.of (out_5 : List Int))) h3 rfl rfl ?_
      refine g_v1 (t := 21) (u := (encO (.at 3 []) (.of (out_5 : List Int)))) (encO (.at 3 []) (.of (out_5 : List Int))) rfl rfl rfl ?_
      refine g_end ?_
      refine e_home (r := 3) (x := 2) (v := (encO (.at 3 []) (.of (out_5 : List Int)))) (by exact rfl) rfl (fun s_3 hg_3 => ?_)
      refine e_end ?_
      refine renew [(2, (encO (.at 2 []) (.of (out_5 : List Int))))] (hg_3 2 (encO (.at 3 []) (.of (out_5 : List Int))) (encO (.at 2 []) (.of (out_5 : List Int))) rfl (map_encO (r := 3) (p := []) rfl rfl)) ?_
      rintro s h2
      refine .nsq ?_
      refine .ret ?_
      have hr := Option.some.inj h
      subst hr
      exact rrA (res_tmp h2) (fin_ret1 (fin_own (o := .of out_5)))
def w_toIntS (F : Nat) (a_1 : (List Int)) : Option (List Int) :=
  (mkN (a_1.length : Int) 0).bind fun mk_2 =>
  w_toIntS_l1 F a_1 F mk_2 0
theorem t12 (H : H12 D σ F) (a_1 : (List Int)) (s : Nat → V) (hs : Facts [(0, (Enc.enc (a_1 : List Int)))] s) (h : w_toIntS F a_1 = some r) : Run D σ (R12 r) (.run A12 []) s := by
  unfold w_toIntS at h
  have h0 := hs
  refine .seq ?_
  refine run_reg ?_
  refine e_end ?_
  refine g_v0 (.sl .nl (Enc.shp Int) 0 []) rfl rfl ?_
  refine g_end ?_
  refine e_end ?_
  refine renew [(0, (Enc.enc (a_1 : List Int))), (2, (.sl .nl (Enc.shp Int) 0 []))] ⟨h0, rfl⟩ ?_
  rintro s ⟨h0, h2⟩
  refine .nsq ?_
  refine .seq ?_
  refine run_reg ?_
  refine e_clr ?_
  refine e_end ?_
  refine g_v1 (t := 0) (u := (Enc.enc (a_1 : List Int))) (Enc.enc (a_1 : List Int)) (keep_clear (s := s) (pk := [7]) h0 rfl (Enc.map_enc _ (a_1 : List Int))) rfl rfl ?_
  refine g_v (.int .i64 (a_1.length : Int)) (ev_len (xs := a_1) rfl) ?_
  obtain ⟨mk_2, E_mk_2, h⟩ := bind_some h
  refine g_mk (0 : Int) rfl rfl (gone_clear (s := s) (pk := [7]) (t := 7) rfl) E_mk_2 ?_
  refine g_v1 (t := 7) (u := (encO (.at 7 []) (.of (mk_2 : List Int)))) (encO (.at 7 []) (.of (mk_2 : List Int))) rfl rfl rfl ?_
  refine g_end ?_
  refine e_home (r := 7) (x := 3) (v := (encO (.at 7 []) (.of (mk_2 : List Int)))) (by exact rfl) rfl (fun s_2 hg_2 => ?_)
  refine e_end ?_
  refine renew [(0, (Enc.enc (a_1 : List Int))), (2, (.sl .nl (Enc.shp Int) 0 [])), (3, (encO (.at 3 []) (.of (mk_2 : List Int))))] ⟨(hg_2 0 (Enc.enc (a_1 : List Int)) (Enc.enc (a_1 : List Int)) (keep_clear (s := s) (pk := [7]) h0 rfl (Enc.map_enc _ (a_1 : List Int))) (Enc.map_enc _ (a_1 : List Int))), (hg_2 2 (.sl .nl (Enc.shp Int) 0 []) (.sl .nl (Enc.shp Int) 0 []) (keep_clear (s := s) (pk := [7]) h2 rfl rfl) rfl), (hg_2 3 (encO (.at 7 []) (.of (mk_2 : List Int))) (encO (.at 3 []) (.of (mk_2 : List Int))) rfl (map_encO (r := 7) (p := []) rfl rfl))⟩ ?_
  rintro s ⟨h0, h2, h3⟩
  refine .nsq ?_
  refine .seq ?_
  refine .seq ?_
  refine run_reg ?_
  refine e_end ?_
  refine g_v0 (.int .i64 0) rfl rfl ?_
  refine g_end ?_
  refine e_end ?_
  refine renew [(0, (Enc.enc (a_1 : List Int))), (2, (.sl .nl (Enc.shp Int) 0 [])), (3, (encO (.at 3 []) (.of (mk_2 : List Int)))), (4, (.int .i64 0))] ⟨h0, h2, h3, rfl⟩ ?_
  rintro s ⟨h0, h2, h3, h4⟩
  refine .nsq ?_
  refine .block ?_
  refine .loop ?_
  exact t_f12_l1 H a_1 F mk_2 0 _ ⟨h0, h2, h3, h4⟩ h
end
def e12 (F : Nat) : Ent := ⟨12, dn1 (w_toIntS F) (fun (r : (List Int)) => (Enc.enc (r : (List Int)))), 0, true⟩
theorem o12 {D : Den} {σ : Sig} {F : Nat} (hF : Fits2 Try.prog D σ) (H : H12 D σ F) : (e12 F).Ok Try.prog := by
  refine ⟨fun args r h => ?_, ⟨Try.f12, Try.func12, rfl, rfl⟩⟩
  obtain ⟨x0, y, rfl, hy, rfl⟩ := dn1_open h
  exact contract_run hF (by kernel_rfl) Try.func12 rfl c12 (show 1 ≤ Try.f12.ntmps by decide) (t12 H x0 _ rfl hy)
/- loop.example/g01109/spec.l1In -/
def A56_1 : AC := (AC.seq (AC.reg [] [(I.mk (some 7) none false (X.v (A.mov (O.t 0)))), (I.mk (some 8) none false (X.v (A.mov (O.t 1)))), (I.mk (some 9) none false (X.v (A.bin BinOp.geq (O.t 7) (O.t 8)))), (I.mk (some 10) none false (X.v (A.mov (O.t 9)))), (I.mk (some 11) (some (10, true)) false (X.v (A.mov (O.t 0)))), (I.mk (some 12) (some (10, true)) false (X.v (A.mov (O.t 2)))), (I.mk (some 13) (some (10, true)) false (X.v (A.bin BinOp.leq (O.t 11) (O.t 12)))), (I.mk (some 14) none false (X.v (A.pick (O.t 10) (O.t 13) (O.k (V.bool false))))), (I.mk (some 6) none false (X.v (A.mov (O.t 14))))] []) AC.ret)
def A56 : AC := (AC.seq (AC.reg [] [(I.mk (some 6) none false (X.v (A.mov (O.k (V.bool false)))))] []) A56_1)
def an56 : List An := []
theorem c56 : cC Try.prog Try.f56.ntmps an56 (Try.f56.body.getD .skip) = some A56 := by rfl
structure H56 (D : Den) (σ : Sig) (F : Nat) : Prop where
  mk ::
abbrev R56 (r : Bool) : (Nat → V) → Prop := RR Try.prog [.tmp 6] 0 false (Enc.enc (r : Bool))
section
variable {D : Den} {σ : Sig} {F : Nat} {r : Bool}
def s_l1In (F : Nat) (x_1 : Int) (a_2 : Int) (b_3 : Int) : Option Bool :=
  bif decide (x_1 ≥ a_2) then
    some (decide (x_1 ≤ b_3))
  else
    some false
theorem t56 (H : H56 D σ F) (x_1 : Int) (a_2 : Int) (b_3 : Int) (s : Nat → V) (hs : Facts [(0, (.int .i64 x_1)), (1, (.int .i64 a_2)), (2, (.int .i64 b_3))] s) (h : s_l1In F x_1 a_2 b_3 = some r) : Run D σ (R56 r) (.run A56 []) s := by
  unfold s_l1In at h
  obtain ⟨h0, h1, h2⟩ := hs
  refine .seq ?_
  refine run_reg ?_
  refine e_end ?_
  refine g_v0 (.bool false) rfl rfl ?_
  refine g_end ?_
  refine e_end ?_
  refine renew [(0, (.int .i64 x_1)), (1, (.int .i64 a_2)), (2, (.int .i64 b_3)), (6, (.bool false))] ⟨h0, h1, h2, rfl⟩ ?_
  rintro s ⟨h0, h1, h2, h6⟩
  refine .nsq ?_
  refine .seq ?_
  refine run_reg ?_
  refine e_end ?_
  refine g_v1 (t := 0) (u := (.int .i64 x_1)) (.int .i64 x_1) h0 rfl rfl ?_
  refine g_v1 (t := 1) (u := (.int .i64 a_2)) (.int .i64 a_2) h1 rfl rfl ?_
  refine g_v2 (t1 := 7) (t2 := 8) (u1 := (.int .i64 x_1)) (u2 := (.int .i64 a_2)) (.bool (decide (x_1 ≥ a_2))) rfl rfl rfl rfl ?_
  refine g_v1 (t := 9) (u := (.bool (decide (x_1 ≥ a_2)))) (.bool (decide (x_1 ≥ a_2))) rfl rfl rfl ?_
  refine split_on (c := decide (x_1 ≥ a_2)) h (fun hg4 h => ?_) (fun hg4 h => ?_)
  · refine g_yes (Eq.trans (b := .bool (decide (x_1 ≥ a_2))) rfl (congrArg V.bool hg4)) (g_v1 (t := 0) (u := (.int .i64 x_1)) (.int .i64 x_1) h0 rfl rfl ?_)
    refine g_yes (Eq.trans (b := .bool (decide (x_1 ≥ a_2))) rfl (congrArg V.bool hg4)) (g_v1 (t := 2) (u := (.int .i64 b_3)) (.int .i64 b_3) h2 rfl rfl ?_)
    refine g_yes (Eq.trans (b := .bool (decide (x_1 ≥ a_2))) rfl (congrArg V.bool hg4)) (g_v2 (t1 := 11) (t2 := 12) (u1 := (.int .i64 x_1)) (u2 := (.int .i64 b_3)) (.bool (decide (x_1 ≤ b_3))) rfl rfl rfl rfl ?_)
    refine g_v2 (t1 := 10) (t2 := 13) (u1 := (.bool true)) (u2 := (.bool (decide (x_1 ≤ b_3)))) (.bool (decide (x_1 ≤ b_3))) (Eq.trans (b := .bool (decide (x_1 ≥ a_2))) rfl (congrArg V.bool hg4)) rfl rfl rfl ?_
    refine g_v1 (t := 14) (u := (.bool (decide (x_1 ≤ b_3)))) (.bool (decide (x_1 ≤ b_3))) rfl rfl rfl ?_
    refine g_end ?_
    refine e_end ?_
    refine renew [(6, (.bool (decide (x_1 ≤ b_3))))] rfl ?_
    rintro s h6
    refine .nsq ?_
    refine .ret ?_
    have hr := Option.some.inj h
    subst hr
    exact rrA (res_tmp h6) rfl
  · refine g_no (Eq.trans (b := .bool (decide (x_1 ≥ a_2))) rfl (congrArg V.bool hg4)) ?_
    refine g_no (Eq.trans (b := .bool (decide (x_1 ≥ a_2))) rfl (congrArg V.bool hg4)) ?_
    refine g_no (Eq.trans (b := .bool (decide (x_1 ≥ a_2))) rfl (congrArg V.bool hg4)) ?_
    refine g_v2 (t1 := 10) (t2 := 13) (u1 := (.bool false)) (u2 := (.tup [])) (.bool false) (Eq.trans (b := .bool (decide (x_1 ≥ a_2))) rfl (congrArg V.bool hg4)) rfl rfl rfl ?_
    refine g_v1 (t := 14) (u := (.bool false)) (.bool false) rfl rfl rfl ?_
    refine g_end ?_
    refine e_end ?_
    refine renew [(6, (.bool false))] rfl ?_
    rintro s h6
    refine .nsq ?_
    refine .ret ?_
    have hr := Option.some.inj h
    subst hr
    exact rrA (res_tmp h6) rfl
end
def e56 (F : Nat) : Ent := ⟨56, dn3 (s_l1In F) (fun (r : Bool) => (Enc.enc (r : Bool))), 0, false⟩
theorem o56 {D : Den} {σ : Sig} {F : Nat} (hF : Fits2 Try.prog D σ) (H : H56 D σ F) : (e56 F).Ok Try.prog := by
  refine ⟨fun args r h => ?_, ⟨Try.f56, Try.func56, rfl, rfl⟩⟩
  obtain ⟨x0, x1, x2, y, rfl, hy, rfl⟩ := dn3_open h
  exact contract_run hF (by kernel_rfl) Try.func56 rfl c56 (show 3 ≤ Try.f56.ntmps by decide) (t56 H x0 x1 x2 _ ⟨rfl, rfl, rfl⟩ hy)
/- loop.example/g01109/spec.l2Before -/
def A57_1 : AC := (AC.seq (AC.reg [] [(I.mk (some 5) none false (X.v (A.idxA (O.t 2) (O.k (V.int IntKind.i64 (Int.ofNat 0))) 2 1))), (I.mk (some 6) none false (X.v (A.load Sh.s (O.t 5)))), (I.mk (some 7) none false (X.v (A.idxA (O.t 3) (O.k (V.int IntKind.i64 (Int.ofNat 0))) 2 1))), (I.mk (some 8) none false (X.v (A.load Sh.s (O.t 7)))), (I.mk (some 9) none false (X.v (A.bin BinOp.lss (O.t 6) (O.t 8)))), (I.mk (some 10) none false (X.v (A.mov (O.t 9)))), (I.mk (some 11) (some (10, false)) false (X.v (A.idxA (O.t 2) (O.k (V.int IntKind.i64 (Int.ofNat 0))) 2 1))), (I.mk (some 12) (some (10, false)) false (X.v (A.load Sh.s (O.t 11)))), (I.mk (some 13) (some (10, false)) false (X.v (A.idxA (O.t 3) (O.k (V.int IntKind.i64 (Int.ofNat 0))) 2 1))), (I.mk (some 14) (some (10, false)) false (X.v (A.load Sh.s (O.t 13)))), (I.mk (some 15) (some (10, false)) false (X.v (A.bin BinOp.eql (O.t 12) (O.t 14)))), (I.mk (some 16) (some (10, false)) false (X.v (A.mov (O.t 15)))), (I.mk (some 17) (some (16, true)) false (X.v (A.idxA (O.t 2) (O.k (V.int IntKind.i64 (Int.ofNat 1))) 2 1))), (I.mk (some 18) (some (16, true)) false (X.v (A.load Sh.s (O.t 17)))), (I.mk (some 19) (some (16, true)) false (X.v (A.idxA (O.t 3) (O.k (V.int IntKind.i64 (Int.ofNat 1))) 2 1))), (I.mk (some 20) (some (16, true)) false (X.v (A.load Sh.s (O.t 19)))), (I.mk (some 21) (some (16, true)) false (X.v (A.bin BinOp.lss (O.t 18) (O.t 20)))), (I.mk (some 22) (some (10, false)) false (X.v (A.pick (O.t 16) (O.t 21) (O.k (V.bool false))))), (I.mk (some 23) none false (X.v (A.pick (O.t 10) (O.k (V.bool true)) (O.t 22)))), (I.mk (some 4) none false (X.v (A.mov (O.t 23))))] []) AC.ret)
def A57 : AC := (AC.seq (AC.reg [.clr [2, 3]] [(I.mk (some 2) none false (X.box (O.t 0))), (I.mk (some 3) none false (X.box (O.t 1))), (I.mk (some 4) none false (X.v (A.mov (O.k (V.bool false)))))] []) A57_1)
def an57 : List An := [{ id := 0, pre := [.clr [2, 3]], ep := [] }]
theorem c57 : cC Try.prog Try.f57.ntmps an57 (Try.f57.body.getD .skip) = some A57 := by rfl
structure H57 (D : Den) (σ : Sig) (F : Nat) : Prop where
  mk ::
abbrev R57 (r : Bool) : (Nat → V) → Prop := RR Try.prog [.tmp 4] 0 false (Enc.enc (r : Bool))
section
variable {D : Den} {σ : Sig} {F : Nat} {r : Bool}
def s_l2Before (F : Nat) (a_1 : (Int × Int)) (b_2 : (Int × Int)) : Option Bool :=
  bif decide (a_1.1 < b_2.1) then
    some true
  else
    bif (a_1.1 == b_2.1) then
      some (decide (a_1.2 < b_2.2))
    else
      some false
theorem t57 (H : H57 D σ F) (a_1 : (Int × Int)) (b_2 : (Int × Int)) (s : Nat → V) (hs : Facts [(0, (.agg [(.int .i64 a_1.1), (.int .i64 a_1.2)])), (1, (.agg [(.int .i64 b_2.1), (.int .i64 b_2.2)]))] s) (h : s_l2Before F a_1 b_2 = some r) : Run D σ (R57 r) (.run A57 []) s := by
  unfold s_l2Before at h
  obtain ⟨h0, h1⟩ := hs
  refine .seq ?_
  refine run_reg ?_
  refine e_clr ?_
  refine e_end ?_
  refine g_box (.agg [(.int .i64 a_1.1), (.int .i64 a_1.2)]) (rd_of (keep_clear (s := s) (pk := [2, 3]) h0 rfl (map_agg (maps_cons rfl (maps_cons rfl maps_nil)))) rfl) (gone_clear (s := s) (pk := [2, 3]) (t := 2) rfl) rfl ?_
  refine g_box (.agg [(.int .i64 b_2.1), (.int .i64 b_2.2)]) (rd_of (keep_clear (s := s) (pk := [2, 3]) h1 rfl (map_agg (maps_cons rfl (maps_cons rfl maps_nil)))) rfl) (gone_clear (s := s) (pk := [2, 3]) (t := 3) rfl) rfl ?_
  refine g_v0 (.bool false) rfl rfl ?_
  refine g_end ?_
  refine e_end ?_
  refine renew [(2, (.ref (.bx 2) 0 [] (.agg [(.int .i64 a_1.1), (.int .i64 a_1.2)]))), (3, (.ref (.bx 3) 0 [] (.agg [(.int .i64 b_2.1), (.int .i64 b_2.2)]))), (4, (.bool false))] ⟨rfl, rfl, rfl⟩ ?_
  rintro s ⟨h2, h3, h4⟩
  refine .nsq ?_
  refine .seq ?_
  refine run_reg ?_
  refine e_end ?_
  refine g_v1 (t := 2) (u := (.ref (.bx 2) 0 [] (.agg [(.int .i64 a_1.1), (.int .i64 a_1.2)]))) (.ref (.bx 2) 0 [0] (.int .i64 a_1.1)) h2 rfl rfl ?_
  refine g_v1 (t := 5) (u := (.ref (.bx 2) 0 [0] (.int .i64 a_1.1))) (.int .i64 a_1.1) rfl rfl rfl ?_
  refine g_v1 (t := 3) (u := (.ref (.bx 3) 0 [] (.agg [(.int .i64 b_2.1), (.int .i64 b_2.2)]))) (.ref (.bx 3) 0 [0] (.int .i64 b_2.1)) h3 rfl rfl ?_
  refine g_v1 (t := 7) (u := (.ref (.bx 3) 0 [0] (.int .i64 b_2.1))) (.int .i64 b_2.1) rfl rfl rfl ?_
  refine g_v2 (t1 := 6) (t2 := 8) (u1 := (.int .i64 a_1.1)) (u2 := (.int .i64 b_2.1)) (.bool (decide (a_1.1 < b_2.1))) rfl rfl rfl rfl ?_
  refine g_v1 (t := 9) (u := (.bool (decide (a_1.1 < b_2.1)))) (.bool (decide (a_1.1 < b_2.1))) rfl rfl rfl ?_
  refine split_on (c := decide (a_1.1 < b_2.1)) h (fun hg6 h => ?_) (fun hg6 h => ?_)
  · refine g_no (Eq.trans (b := .bool (decide (a_1.1 < b_2.1))) rfl (congrArg V.bool hg6)) ?_
    refine g_no (Eq.trans (b := .bool (decide (a_1.1 < b_2.1))) rfl (congrArg V.bool hg6)) ?_
    refine g_no (Eq.trans (b := .bool (decide (a_1.1 < b_2.1))) rfl (congrArg V.bool hg6)) ?_
    refine g_no (Eq.trans (b := .bool (decide (a_1.1 < b_2.1))) rfl (congrArg V.bool hg6)) ?_
    refine g_no (Eq.trans (b := .bool (decide (a_1.1 < b_2.1))) rfl (congrArg V.bool hg6)) ?_
    refine g_no (Eq.trans (b := .bool (decide (a_1.1 < b_2.1))) rfl (congrArg V.bool hg6)) ?_
    refine g_skip rfl ?_
    refine g_skip rfl ?_
    refine g_skip rfl ?_
    refine g_skip rfl ?_
    refine g_skip rfl ?_
    refine g_no (Eq.trans (b := .bool (decide (a_1.1 < b_2.1))) rfl (congrArg V.bool hg6)) ?_
    refine g_v2 (t1 := 10) (t2 := 22) (u1 := (.bool true)) (u2 := (.tup [])) (.bool true) (Eq.trans (b := .bool (decide (a_1.1 < b_2.1))) rfl (congrArg V.bool hg6)) rfl rfl rfl ?_
    refine g_v1 (t := 23) (u := (.bool true)) (.bool true) rfl rfl rfl ?_
    refine g_end ?_
    refine e_end ?_
    refine renew [(4, (.bool true))] rfl ?_
    rintro s h4
    refine .nsq ?_
    refine .ret ?_
    have hr := Option.some.inj h
    subst hr
    exact rrA (res_tmp h4) rfl
  · refine g_yes (Eq.trans (b := .bool (decide (a_1.1 < b_2.1))) rfl (congrArg V.bool hg6)) (g_v1 (t := 2) (u := (.ref (.bx 2) 0 [] (.agg [(.int .i64 a_1.1), (.int .i64 a_1.2)]))) (.ref (.bx 2) 0 [0] (.int .i64 a_1.1)) h2 rfl rfl ?_)
    refine g_yes (Eq.trans (b := .bool (decide (a_1.1 < b_2.1))) rfl (congrArg V.bool hg6)) (g_v1 (t := 11) (u := (.ref (.bx 2) 0 [0] (.int .i64 a_1.1))) (.int .i64 a_1.1) rfl rfl rfl ?_)
    refine g_yes (Eq.trans (b := .bool (decide (a_1.1 < b_2.1))) rfl (congrArg V.bool hg6)) (g_v1 (t := 3) (u := (.ref (.bx 3) 0 [] (.agg [(.int .i64 b_2.1), (.int .i64 b_2.2)]))) (.ref (.bx 3) 0 [0] (.int .i64 b_2.1)) h3 rfl rfl ?_)
    refine g_yes (Eq.trans (b := .bool (decide (a_1.1 < b_2.1))) rfl (congrArg V.bool hg6)) (g_v1 (t := 13) (u := (.ref (.bx 3) 0 [0] (.int .i64 b_2.1))) (.int .i64 b_2.1) rfl rfl rfl ?_)
    refine g_yes (Eq.trans (b := .bool (decide (a_1.1 < b_2.1))) rfl (congrArg V.bool hg6)) (g_v2 (t1 := 12) (t2 := 14) (u1 := (.int .i64 a_1.1)) (u2 := (.int .i64 b_2.1)) (.bool (a_1.1 == b_2.1)) rfl rfl rfl rfl ?_)
    refine g_yes (Eq.trans (b := .bool (decide (a_1.1 < b_2.1))) rfl (congrArg V.bool hg6)) (g_v1 (t := 15) (u := (.bool (a_1.1 == b_2.1))) (.bool (a_1.1 == b_2.1)) rfl rfl rfl ?_)
    refine split_on (c := (a_1.1 == b_2.1)) h (fun hg12 h => ?_) (fun hg12 h => ?_)
    · refine g_yes (Eq.trans (b := .bool (a_1.1 == b_2.1)) rfl (congrArg V.bool hg12)) (g_v1 (t := 2) (u := (.ref (.bx 2) 0 [] (.agg [(.int .i64 a_1.1), (.int .i64 a_1.2)]))) (.ref (.bx 2) 0 [1] (.int .i64 a_1.2)) h2 rfl rfl ?_)
      refine g_yes (Eq.trans (b := .bool (a_1.1 == b_2.1)) rfl (congrArg V.bool hg12)) (g_v1 (t := 17) (u := (.ref (.bx 2) 0 [1] (.int .i64 a_1.2))) (.int .i64 a_1.2) rfl rfl rfl ?_)
      refine g_yes (Eq.trans (b := .bool (a_1.1 == b_2.1)) rfl (congrArg V.bool hg12)) (g_v1 (t := 3) (u := (.ref (.bx 3) 0 [] (.agg [(.int .i64 b_2.1), (.int .i64 b_2.2)]))) (.ref (.bx 3) 0 [1] (.int .i64 b_2.2)) h3 rfl rfl ?_)
      refine g_yes (Eq.trans (b := .bool (a_1.1 == b_2.1)) rfl (congrArg V.bool hg12)) (g_v1 (t := 19) (u := (.ref (.bx 3) 0 [1] (.int .i64 b_2.2))) (.int .i64 b_2.2) rfl rfl rfl ?_)
      refine g_yes (Eq.trans (b := .bool (a_1.1 == b_2.1)) rfl (congrArg V.bool hg12)) (g_v2 (t1 := 18) (t2 := 20) (u1 := (.int .i64 a_1.2)) (u2 := (.int .i64 b_2.2)) (.bool (decide (a_1.2 < b_2.2))) rfl rfl rfl rfl ?_)
      refine g_yes (Eq.trans (b := .bool (decide (a_1.1 < b_2.1))) rfl (congrArg V.bool hg6)) (g_v2 (t1 := 16) (t2 := 21) (u1 := (.bool true)) (u2 := (.bool (decide (a_1.2 < b_2.2)))) (.bool (decide (a_1.2 < b_2.2))) (Eq.trans (b := .bool (a_1.1 == b_2.1)) rfl (congrArg V.bool hg12)) rfl rfl rfl ?_)
      refine g_v2 (t1 := 10) (t2 := 22) (u1 := (.bool false)) (u2 := (.bool (decide (a_1.2 < b_2.2)))) (.bool (decide (a_1.2 < b_2.2))) (Eq.trans (b := .bool (decide (a_1.1 < b_2.1))) rfl (congrArg V.bool hg6)) rfl rfl rfl ?_
      refine g_v1 (t := 23) (u := (.bool (decide (a_1.2 < b_2.2)))) (.bool (decide (a_1.2 < b_2.2))) rfl rfl rfl ?_
      refine g_end ?_
      refine e_end ?_
      refine renew [(4, (.bool (decide (a_1.2 < b_2.2))))] rfl ?_
      rintro s h4
      refine .nsq ?_
      refine .ret ?_
      have hr := Option.some.inj h
      subst hr
      exact rrA (res_tmp h4) rfl
    · refine g_no (Eq.trans (b := .bool (a_1.1 == b_2.1)) rfl (congrArg V.bool hg12)) ?_
      refine g_no (Eq.trans (b := .bool (a_1.1 == b_2.1)) rfl (congrArg V.bool hg12)) ?_
      refine g_no (Eq.trans (b := .bool (a_1.1 == b_2.1)) rfl (congrArg V.bool hg12)) ?_
      refine g_no (Eq.trans (b := .bool (a_1.1 == b_2.1)) rfl (congrArg V.bool hg12)) ?_
      refine g_no (Eq.trans (b := .bool (a_1.1 == b_2.1)) rfl (congrArg V.bool hg12)) ?_
      refine g_yes (Eq.trans (b := .bool (decide (a_1.1 < b_2.1))) rfl (congrArg V.bool hg6)) (g_v2 (t1 := 16) (t2 := 21) (u1 := (.bool false)) (u2 := (.tup [])) (.bool false) (Eq.trans (b := .bool (a_1.1 == b_2.1)) rfl (congrArg V.bool hg12)) rfl rfl rfl ?_)
      refine g_v2 (t1 := 10) (t2 := 22) (u1 := (.bool false)) (u2 := (.bool false)) (.bool false) (Eq.trans (b := .bool (decide (a_1.1 < b_2.1))) rfl (congrArg V.bool hg6)) rfl rfl rfl ?_
      refine g_v1 (t := 23) (u := (.bool false)) (.bool false) rfl rfl rfl ?_
      refine g_end ?_
      refine e_end ?_
      refine renew [(4, (.bool false))] rfl ?_
      rintro s h4
      refine .nsq ?_
      refine .ret ?_
      have hr := Option.some.inj h
      subst hr
      exact rrA (res_tmp h4) rfl
end
def e57 (F : Nat) : Ent := ⟨57, dn2 (s_l2Before F) (fun (r : Bool) => (Enc.enc (r : Bool))), 0, false⟩
theorem o57 {D : Den} {σ : Sig} {F : Nat} (hF : Fits2 Try.prog D σ) (H : H57 D σ F) : (e57 F).Ok Try.prog := by
  refine ⟨fun args r h => ?_, ⟨Try.f57, Try.func57, rfl, rfl⟩⟩
  obtain ⟨x0, x1, y, rfl, hy, rfl⟩ := dn2_open h
  exact contract_run hF (by kernel_rfl) Try.func57 rfl c57 (show 2 ≤ Try.f57.ntmps by decide) (t57 H x0 x1 _ ⟨rfl, rfl⟩ hy)
/- loop.example/g01109/spec.l2Good -/
def A30_2 : AC := (AC.cond (O.t 9) AC.skip (AC.exit 0))
def A30_5 : AC := (AC.cond (O.t 54) (AC.seq (AC.reg [] [(I.mk (some 2) none false (X.v (A.mov (O.k (V.bool false)))))] []) AC.ret) AC.skip)
def A30_4 : AC := (AC.seq (AC.reg [] [(I.mk (some 17) none false (X.v (A.idxA (O.t 4) (O.k (V.int IntKind.i64 (Int.ofNat 0))) 2 1))), (I.mk (some 18) none false (X.v (A.load Sh.s (O.t 17)))), (I.mk (some 19) none false (X.v (A.fld (O.t 1) 0 0))), (I.mk (some 20) none false (X.v (A.load Sh.s (O.t 19)))), (I.mk (some 21) none false (X.v (A.bin BinOp.sub (O.t 20) (O.k (V.int IntKind.i64 (Int.ofNat 1)))))), (I.mk (some 22) none false (X.call (O.k (V.fn 56 [] [])) [(O.t 18), (O.k (V.int IntKind.i64 (Int.ofNat 0))), (O.t 21)])), (I.mk (some 23) none false (X.v (A.un UnOp.not (O.t 22)))), (I.mk (some 24) none false (X.v (A.mov (O.t 23)))), (I.mk (some 25) (some (24, false)) false (X.v (A.idxA (O.t 4) (O.k (V.int IntKind.i64 (Int.ofNat 1))) 2 1))), (I.mk (some 26) (some (24, false)) false (X.v (A.load Sh.s (O.t 25)))), (I.mk (some 27) (some (24, false)) false (X.v (A.fld (O.t 1) 0 0))), (I.mk (some 28) (some (24, false)) false (X.v (A.load Sh.s (O.t 27)))), (I.mk (some 29) (some (24, false)) false (X.v (A.bin BinOp.sub (O.t 28) (O.k (V.int IntKind.i64 (Int.ofNat 1)))))), (I.mk (some 30) (some (24, false)) false (X.call (O.k (V.fn 56 [] [])) [(O.t 26), (O.k (V.int IntKind.i64 (Int.ofNat 0))), (O.t 29)])), (I.mk (some 31) (some (24, false)) false (X.v (A.un UnOp.not (O.t 30)))), (I.mk (some 32) none false (X.v (A.pick (O.t 24) (O.k (V.bool true)) (O.t 31)))), (I.mk (some 33) none false (X.v (A.mov (O.t 32)))), (I.mk (some 34) (some (33, false)) false (X.v (A.idxA (O.t 4) (O.k (V.int IntKind.i64 (Int.ofNat 0))) 2 1))), (I.mk (some 35) (some (33, false)) false (X.v (A.load Sh.s (O.t 34)))), (I.mk (some 36) (some (33, false)) false (X.v (A.idxA (O.t 4) (O.k (V.int IntKind.i64 (Int.ofNat 1))) 2 1))), (I.mk (some 37) (some (33, false)) false (X.v (A.load Sh.s (O.t 36)))), (I.mk (some 38) (some (33, false)) false (X.v (A.bin BinOp.geq (O.t 35) (O.t 37)))), (I.mk (some 39) none false (X.v (A.pick (O.t 33) (O.k (V.bool true)) (O.t 38)))), (I.mk (some 40) none false (X.v (A.mov (O.t 39)))), (I.mk (some 41) (some (40, false)) false (X.v (A.mov (O.t 3)))), (I.mk (some 42) (some (40, false)) false (X.v (A.bin BinOp.gtr (O.t 41) (O.k (V.int IntKind.i64 (Int.ofNat 0)))))), (I.mk (some 43) (some (40, false)) false (X.v (A.mov (O.t 42)))), (I.mk (some 44) (some (43, true)) false (X.v (A.fld (O.t 1) 1 1))), (I.mk (some 45) (some (43, true)) false (X.v (A.load Sh.p (O.t 44)))), (I.mk (some 46) (some (43, true)) false (X.v (A.mov (O.t 3)))), (I.mk (some 47) (some (43, true)) false (X.v (A.bin BinOp.sub (O.t 46) (O.k (V.int IntKind.i64 (Int.ofNat 1)))))), (I.mk (some 48) (some (43, true)) false (X.v (A.idx (O.t 45) (O.t 47) 2))), (I.mk (some 49) (some (43, true)) false (X.v (A.load (Sh.ag [Sh.s, Sh.s]) (O.t 48)))), (I.mk (some 50) (some (43, true)) false (X.v (A.load (Sh.ag [Sh.s, Sh.s]) (O.t 4)))), (I.mk (some 51) (some (43, true)) false (X.call (O.k (V.fn 57 [] [])) [(O.t 49), (O.t 50)])), (I.mk (some 52) (some (43, true)) false (X.v (A.un UnOp.not (O.t 51)))), (I.mk (some 53) (some (40, false)) false (X.v (A.pick (O.t 43) (O.t 52) (O.k (V.bool false))))), (I.mk (some 54) none false (X.v (A.pick (O.t 40) (O.k (V.bool true)) (O.t 53))))] []) A30_5)
def A30_6 : AC := (AC.reg [] [(I.mk (some 10) none false (X.v (A.mov (O.t 3)))), (I.mk (some 11) none false (X.v (A.bin BinOp.add (O.t 10) (O.k (V.int IntKind.i64 (Int.ofNat 1)))))), (I.mk (some 3) none false (X.v (A.mov (O.t 11))))] [])
def A30_3 : AC := (AC.seq (AC.block 1 (AC.seq (AC.reg [.clr [4]] [(I.mk (some 12) none false (X.v (A.fld (O.t 1) 1 1))), (I.mk (some 13) none false (X.v (A.load Sh.p (O.t 12)))), (I.mk (some 14) none false (X.v (A.mov (O.t 3)))), (I.mk (some 15) none false (X.v (A.idx (O.t 13) (O.t 14) 2))), (I.mk (some 16) none false (X.v (A.load (Sh.ag [Sh.s, Sh.s]) (O.t 15)))), (I.mk (some 4) none false (X.alloc (V.agg [(V.int IntKind.i64 (Int.ofNat 0)), (V.int IntKind.i64 (Int.ofNat 0))]))), (I.mk none none false (X.store (Sh.ag [Sh.s, Sh.s]) (O.t 4) (O.t 16)))] []) A30_4)) A30_6)
def A30_1 : AC := (AC.seq (AC.seq (AC.reg [] [(I.mk (some 5) none false (X.v (A.mov (O.t 3)))), (I.mk (some 6) none false (X.v (A.fld (O.t 1) 1 1))), (I.mk (some 7) none false (X.v (A.load Sh.p (O.t 6)))), (I.mk (some 8) none false (X.v (A.len (O.t 7)))), (I.mk (some 9) none false (X.v (A.bin BinOp.lss (O.t 5) (O.t 8))))] []) A30_2) A30_3)
def A30_7 : AC := (AC.seq (AC.reg [] [(I.mk (some 55) none false (X.v (A.fld (O.t 1) 0 0))), (I.mk (some 56) none false (X.v (A.load Sh.s (O.t 55)))), (I.mk (some 57) none false (X.call (O.k (V.fn 56 [] [])) [(O.t 56), (O.k (V.int IntKind.i64 (Int.ofNat 0))), (O.k (V.int IntKind.i64 (Int.ofNat 8)))])), (I.mk (some 2) none false (X.v (A.mov (O.t 57))))] []) AC.ret)
def A30_9 : AC := (AC.block 0 (AC.loop A30_1))
def A30_8 : AC := (AC.seq (AC.seq (AC.reg [] [(I.mk (some 3) none false (X.v (A.mov (O.k (V.int IntKind.i64 (Int.ofNat 0))))))] []) A30_9) A30_7)
def A30 : AC := (AC.seq (AC.reg [.clr [1]] [(I.mk (some 1) none false (X.box (O.t 0))), (I.mk (some 2) none false (X.v (A.mov (O.k (V.bool false)))))] []) A30_8)
def an30 : List An := [{ id := 0, pre := [.clr [1]], ep := [] }, { id := 4, pre := [.clr [4]], ep := [] }]
theorem c30 : cC Try.prog Try.f30.ntmps an30 (Try.f30.body.getD .skip) = some A30 := by rfl
structure H30 (D : Den) (σ : Sig) (F : Nat) : Prop where
  c56 : ∀ x0 x1 x2 r, s_l1In F x0 x1 x2 = some r → D 56 [Enc.enc x0, Enc.enc x1, Enc.enc x2] = some (Enc.enc (r : Bool))
  g56 : σ 56 = some (0, false)
  c57 : ∀ x0 x1 r, s_l2Before F x0 x1 = some r → D 57 [Enc.enc x0, Enc.enc x1] = some (Enc.enc (r : Bool))
  g57 : σ 57 = some (0, false)
abbrev R30 (r : Bool) : (Nat → V) → Prop := RR Try.prog [.tmp 2] 0 false (Enc.enc (r : Bool))
section
variable {D : Den} {σ : Sig} {F : Nat} {r : Bool}
def s_l2Good_j3 (F : Nat) (g_1 : (Int × (List (Int × Int)))) (i_12 : Int) (c1 : Int → Option Bool) (t54_28 : Bool) : Option Bool :=
  bif t54_28 then
    some false
  else
    c1 (w64 (i_12 + 1))
theorem t_f30_j3 (H : H30 D σ F) (g_1 : (Int × (List (Int × Int)))) (i_12 : Int) (c1 : Int → Option Bool) (Hc1 : ∀ (i_12 : Int) (s : Nat → V), Facts [(1, (.ref (.bx 1) 0 [] (.agg [(.int .i64 g_1.1), (Enc.enc (g_1.2 : List (Int × Int)))]))), (2, (.bool false)), (3, (.int .i64 i_12))] s → c1 i_12 = some r → Run D σ (R30 r) (.run A30_1 [.lp A30_1, .bk 0, .sq A30_7]) s) (t54_28 : Bool) (s : Nat → V) (hs : Facts [(1, (.ref (.bx 1) 0 [] (.agg [(.int .i64 g_1.1), (Enc.enc (g_1.2 : List (Int × Int)))]))), (2, (.bool false)), (3, (.int .i64 i_12)), (54, (.bool t54_28))] s) (h : s_l2Good_j3 F g_1 i_12 c1 t54_28 = some r) : Run D σ (R30 r) (.nrm [.sq A30_5, .bk 1, .sq A30_6, .lp A30_1, .bk 0, .sq A30_7]) s := by
  unfold s_l2Good_j3 at h
  obtain ⟨h1, h2, h3, h54⟩ := hs
  refine .nsq ?_
  refine run_cond (t := t54_28) h54 h (fun h => ?_) (fun h => ?_)
  · refine .seq ?_
    refine run_reg ?_
    refine e_end ?_
    refine g_v0 (.bool false) rfl rfl ?_
    refine g_end ?_
    refine e_end ?_
    refine renew [(1, (.ref (.bx 1) 0 [] (.agg [(.int .i64 g_1.1), (Enc.enc (g_1.2 : List (Int × Int)))]))), (2, (.bool false)), (3, (.int .i64 i_12))] ⟨h1, rfl, h3⟩ ?_
    rintro s ⟨h1, h2, h3⟩
    refine .nsq ?_
    refine .ret ?_
    have hr := Option.some.inj h
    subst hr
    exact rrA (res_tmp h2) rfl
  · refine .skip ?_
    refine .nbk ?_
    refine .nsq ?_
    refine run_reg ?_
    refine e_end ?_
    refine g_v1 (t := 3) (u := (.int .i64 i_12)) (.int .i64 i_12) h3 rfl rfl ?_
    refine g_v1 (t := 10) (u := (.int .i64 i_12)) (.int .i64 (w64 (i_12 + 1))) rfl rfl rfl ?_
    refine g_v1 (t := 11) (u := (.int .i64 (w64 (i_12 + 1)))) (.int .i64 (w64 (i_12 + 1))) rfl rfl rfl ?_
    refine g_end ?_
    refine e_end ?_
    refine renew [(1, (.ref (.bx 1) 0 [] (.agg [(.int .i64 g_1.1), (Enc.enc (g_1.2 : List (Int × Int)))]))), (2, (.bool false)), (3, (.int .i64 (w64 (i_12 + 1))))] ⟨h1, h2, rfl⟩ ?_
    rintro s ⟨h1, h2, h3⟩
    refine .nlp ?_
    exact Hc1 (w64 (i_12 + 1)) _ ⟨h1, h2, h3⟩ h
def s_l2Good_l1 (F : Nat) (g_1 : (Int × (List (Int × Int))))  : Nat → Int → Option Bool
  | 0, _ => none
  | k + 1, i_12 =>
    bif decide (i_12 < (g_1.2.length : Int)) then
      (idx g_1.2 i_12).bind fun e_23 =>
      (s_l1In F e_23.1 0 (w64 (g_1.1 - 1))).bind fun r_29 =>
      bif (!r_29) then
        s_l2Good_j3 F g_1 i_12 (s_l2Good_l1 F g_1 k) true
      else
        (s_l1In F e_23.2 0 (w64 (g_1.1 - 1))).bind fun r_30 =>
        bif (!r_30) then
          s_l2Good_j3 F g_1 i_12 (s_l2Good_l1 F g_1 k) true
        else
          bif decide (e_23.1 ≥ e_23.2) then
            s_l2Good_j3 F g_1 i_12 (s_l2Good_l1 F g_1 k) true
          else
            bif decide (i_12 > 0) then
              (idx g_1.2 (w64 (i_12 - 1))).bind fun e_31 =>
              (s_l2Before F e_31 e_23).bind fun r_32 =>
              s_l2Good_j3 F g_1 i_12 (s_l2Good_l1 F g_1 k) (!r_32)
            else
              s_l2Good_j3 F g_1 i_12 (s_l2Good_l1 F g_1 k) false
    else
      (s_l1In F g_1.1 0 8).bind fun r_33 =>
      some r_33
theorem t_f30_l1 (H : H30 D σ F) (g_1 : (Int × (List (Int × Int))))  : ∀ (k : Nat) (i_12 : Int) (s : Nat → V), Facts [(1, (.ref (.bx 1) 0 [] (.agg [(.int .i64 g_1.1), (Enc.enc (g_1.2 : List (Int × Int)))]))), (2, (.bool false)), (3, (.int .i64 i_12))] s → s_l2Good_l1 F g_1 k i_12 = some r → Run D σ (R30 r) (.run A30_1 [.lp A30_1, .bk 0, .sq A30_7]) s := by
  intro k
  induction k with
  | zero => intro i_12 s _ h; exact nomatch (h : (none : Option _) = some r)
  | succ k ih =>
    intro i_12 s hs h
    rw [s_l2Good_l1] at h
    obtain ⟨h1, h2, h3⟩ := hs
    refine .seq ?_
    refine .seq ?_
    refine run_reg ?_
    refine e_end ?_
    refine g_v1 (t := 3) (u := (.int .i64 i_12)) (.int .i64 i_12) h3 rfl rfl ?_
    refine g_v1 (t := 1) (u := (.ref (.bx 1) 0 [] (.agg [(.int .i64 g_1.1), (Enc.enc (g_1.2 : List (Int × Int)))]))) (.ref (.bx 1) 0 [1] (Enc.enc (g_1.2 : List (Int × Int)))) h1 rfl rfl ?_
    refine g_v1 (t := 6) (u := (.ref (.bx 1) 0 [1] (Enc.enc (g_1.2 : List (Int × Int))))) (Enc.enc (g_1.2 : List (Int × Int))) rfl rfl rfl ?_
    refine g_v (.int .i64 (g_1.2.length : Int)) (ev_len (xs := g_1.2) rfl) ?_
    refine g_v2 (t1 := 5) (t2 := 8) (u1 := (.int .i64 i_12)) (u2 := (.int .i64 (g_1.2.length : Int))) (.bool (decide (i_12 < (g_1.2.length : Int)))) rfl rfl rfl rfl ?_
    refine g_end ?_
    refine e_end ?_
    refine renew [(1, (.ref (.bx 1) 0 [] (.agg [(.int .i64 g_1.1), (Enc.enc (g_1.2 : List (Int × Int)))]))), (2, (.bool false)), (3, (.int .i64 i_12)), (9, (.bool (decide (i_12 < (g_1.2.length : Int)))))] ⟨h1, h2, h3, rfl⟩ ?_
    rintro s ⟨h1, h2, h3, h9⟩
    refine .nsq ?_
    refine run_cond (t := decide (i_12 < (g_1.2.length : Int))) h9 h (fun h => ?_) (fun h => ?_)
    · refine .skip ?_
      refine .nsq ?_
      refine .seq ?_
      refine .block ?_
      refine .seq ?_
      refine run_reg ?_
      refine e_clr ?_
      refine e_end ?_
      refine g_v1 (t := 1) (u := (.ref (.bx 1) 0 [] (.agg [(.int .i64 g_1.1), (Enc.enc (g_1.2 : List (Int × Int)))]))) (.ref (.bx 1) 0 [1] (Enc.enc (g_1.2 : List (Int × Int)))) (keep_clear (s := s) (pk := [4]) h1 rfl (map_bx rfl (map_agg (maps_cons rfl (maps_cons (Enc.map_enc _ (g_1.2 : List (Int × Int))) maps_nil))))) rfl rfl ?_
      refine g_v1 (t := 12) (u := (.ref (.bx 1) 0 [1] (Enc.enc (g_1.2 : List (Int × Int))))) (Enc.enc (g_1.2 : List (Int × Int))) rfl rfl rfl ?_
      refine g_v1 (t := 3) (u := (.int .i64 i_12)) (.int .i64 i_12) (keep_clear (s := s) (pk := [4]) h3 rfl rfl) rfl rfl ?_
      obtain ⟨e_23, E_e_23, h⟩ := bind_some h
      refine g_v (.ref .sh 0 [] (.agg [(.int .i64 e_23.1), (.int .i64 e_23.2)])) (ev_idx (t := .sh) (lo := 0) (xs := g_1.2) rfl rfl E_e_23 rfl rfl) ?_
      refine g_v1 (t := 15) (u := (.ref .sh 0 [] (.agg [(.int .i64 e_23.1), (.int .i64 e_23.2)]))) (.agg [(.int .i64 e_23.1), (.int .i64 e_23.2)]) rfl rfl rfl ?_
      refine g_alloc (gone_clear (s := s) (pk := [4]) (t := 4) rfl) ?_
      refine g_store (.agg [(.int .i64 e_23.1), (.int .i64 e_23.2)]) (rd_of rfl rfl) (rd_of rfl rfl) (by refine ⟨by decide, by decide, rfl, rfl, rfl, ?_⟩; first | rfl | simp [V.toks, V.tokss, Enc.toks_enc]) ?_
      refine g_end ?_
      refine e_end ?_
      refine renew [(1, (.ref (.bx 1) 0 [] (.agg [(.int .i64 g_1.1), (Enc.enc (g_1.2 : List (Int × Int)))]))), (2, (.bool false)), (3, (.int .i64 i_12)), (4, (.ref (.bx 4) 0 [] (.agg [(.int .i64 e_23.1), (.int .i64 e_23.2)])))] ⟨(keep_mut (keep_clear (s := s) (pk := [4]) h1 rfl (map_bx rfl (map_agg (maps_cons rfl (maps_cons (Enc.map_enc _ (g_1.2 : List (Int × Int))) maps_nil))))) (mut_ref_ne rfl rfl (mut_agg (muts_cons rfl (muts_cons (Enc.mut_enc _ _ _ _ (g_1.2 : List (Int × Int))) rfl))))), (keep_mut (keep_clear (s := s) (pk := [4]) h2 rfl rfl) rfl), (keep_mut (keep_clear (s := s) (pk := [4]) h3 rfl rfl) rfl), (keep_mut rfl rfl)⟩ ?_
      rintro s ⟨h1, h2, h3, h4⟩
      refine .nsq ?_
      refine .seq ?_
      refine run_reg ?_
      refine e_end ?_
      refine g_v1 (t := 4) (u := (.ref (.bx 4) 0 [] (.agg [(.int .i64 e_23.1), (.int .i64 e_23.2)]))) (.ref (.bx 4) 0 [0] (.int .i64 e_23.1)) h4 rfl rfl ?_
      refine g_v1 (t := 17) (u := (.ref (.bx 4) 0 [0] (.int .i64 e_23.1))) (.int .i64 e_23.1) rfl rfl rfl ?_
      refine g_v1 (t := 1) (u := (.ref (.bx 1) 0 [] (.agg [(.int .i64 g_1.1), (Enc.enc (g_1.2 : List (Int × Int)))]))) (.ref (.bx 1) 0 [0] (.int .i64 g_1.1)) h1 rfl rfl ?_
      refine g_v1 (t := 19) (u := (.ref (.bx 1) 0 [0] (.int .i64 g_1.1))) (.int .i64 g_1.1) rfl rfl rfl ?_
      refine g_v1 (t := 20) (u := (.int .i64 g_1.1)) (.int .i64 (w64 (g_1.1 - 1))) rfl rfl rfl ?_
      obtain ⟨r_29, E_r_29, h⟩ := bind_some h
      refine g_call (m := 0) (al := false) (r := (Enc.enc (r_29 : Bool))) [Enc.enc (e_23.1 : Int), Enc.enc (0 : Int), Enc.enc (w64 (g_1.1 - 1) : Int)] (ta_cons (v := (.int .i64 e_23.1)) rfl rfl rfl (ta_cons (v := (.int .i64 0)) rfl rfl rfl (ta_cons (v := (.int .i64 (w64 (g_1.1 - 1)))) rfl rfl rfl ta_nil))) (H.c56 _ _ _ _ E_r_29) H.g56 rfl rfl rfl rfl ?_
      refine g_v1 (t := 22) (u := (.bool r_29)) (.bool (!r_29)) rfl rfl rfl ?_
      refine g_v1 (t := 23) (u := (.bool (!r_29))) (.bool (!r_29)) rfl rfl rfl ?_
      refine split_on (c := (!r_29)) h (fun hg8 h => ?_) (fun hg8 h => ?_)
      · refine g_no (Eq.trans (b := .bool (!r_29)) rfl (congrArg V.bool hg8)) ?_
        refine g_no (Eq.trans (b := .bool (!r_29)) rfl (congrArg V.bool hg8)) ?_
        refine g_no (Eq.trans (b := .bool (!r_29)) rfl (congrArg V.bool hg8)) ?_
        refine g_no (Eq.trans (b := .bool (!r_29)) rfl (congrArg V.bool hg8)) ?_
        refine g_no (Eq.trans (b := .bool (!r_29)) rfl (congrArg V.bool hg8)) ?_
        refine g_no (Eq.trans (b := .bool (!r_29)) rfl (congrArg V.bool hg8)) ?_
        refine g_no (Eq.trans (b := .bool (!r_29)) rfl (congrArg V.bool hg8)) ?_
        refine g_v2 (t1 := 24) (t2 := 31) (u1 := (.bool true)) (u2 := (.tup [])) (.bool true) (Eq.trans (b := .bool (!r_29)) rfl (congrArg V.bool hg8)) rfl rfl rfl ?_
        refine g_v1 (t := 32) (u := (.bool true)) (.bool true) rfl rfl rfl ?_
        refine g_no rfl ?_
        refine g_no rfl ?_
        refine g_no rfl ?_
        refine g_no rfl ?_
        refine g_no rfl ?_
        refine g_v2 (t1 := 33) (t2 := 38) (u1 := (.bool true)) (u2 := (.tup [])) (.bool true) rfl rfl rfl rfl ?_
        refine g_v1 (t := 39) (u := (.bool true)) (.bool true) rfl rfl rfl ?_
        refine g_no rfl ?_
        refine g_no rfl ?_
        refine g_no rfl ?_
        refine g_skip rfl ?_
        refine g_skip rfl ?_
        refine g_skip rfl ?_
        refine g_skip rfl ?_
        refine g_skip rfl ?_
        refine g_skip rfl ?_
        refine g_skip rfl ?_
        refine g_skip rfl ?_
        refine g_skip rfl ?_
        refine g_no rfl ?_
        refine g_v2 (t1 := 40) (t2 := 53) (u1 := (.bool true)) (u2 := (.tup [])) (.bool true) rfl rfl rfl rfl ?_
        refine g_end ?_
        refine e_end ?_
        refine renew [(1, (.ref (.bx 1) 0 [] (.agg [(.int .i64 g_1.1), (Enc.enc (g_1.2 : List (Int × Int)))]))), (2, (.bool false)), (3, (.int .i64 i_12)), (54, (.bool true))] ⟨h1, h2, h3, rfl⟩ ?_
        rintro s ⟨h1, h2, h3, h54⟩
        exact t_f30_j3 H g_1 i_12 (s_l2Good_l1 F g_1 k) ih true _ ⟨h1, h2, h3, h54⟩ h
      · refine g_yes (Eq.trans (b := .bool (!r_29)) rfl (congrArg V.bool hg8)) (g_v1 (t := 4) (u := (.ref (.bx 4) 0 [] (.agg [(.int .i64 e_23.1), (.int .i64 e_23.2)]))) (.ref (.bx 4) 0 [1] (.int .i64 e_23.2)) h4 rfl rfl ?_)
        refine g_yes (Eq.trans (b := .bool (!r_29)) rfl (congrArg V.bool hg8)) (g_v1 (t := 25) (u := (.ref (.bx 4) 0 [1] (.int .i64 e_23.2))) (.int .i64 e_23.2) rfl rfl rfl ?_)
        refine g_yes (Eq.trans (b := .bool (!r_29)) rfl (congrArg V.bool hg8)) (g_v1 (t := 1) (u := (.ref (.bx 1) 0 [] (.agg [(.int .i64 g_1.1), (Enc.enc (g_1.2 : List (Int × Int)))]))) (.ref (.bx 1) 0 [0] (.int .i64 g_1.1)) h1 rfl rfl ?_)
        refine g_yes (Eq.trans (b := .bool (!r_29)) rfl (congrArg V.bool hg8)) (g_v1 (t := 27) (u := (.ref (.bx 1) 0 [0] (.int .i64 g_1.1))) (.int .i64 g_1.1) rfl rfl rfl ?_)
        refine g_yes (Eq.trans (b := .bool (!r_29)) rfl (congrArg V.bool hg8)) (g_v1 (t := 28) (u := (.int .i64 g_1.1)) (.int .i64 (w64 (g_1.1 - 1))) rfl rfl rfl ?_)
        obtain ⟨r_30, E_r_30, h⟩ := bind_some h
        refine g_yes (Eq.trans (b := .bool (!r_29)) rfl (congrArg V.bool hg8)) (g_call (m := 0) (al := false) (r := (Enc.enc (r_30 : Bool))) [Enc.enc (e_23.2 : Int), Enc.enc (0 : Int), Enc.enc (w64 (g_1.1 - 1) : Int)] (ta_cons (v := (.int .i64 e_23.2)) rfl rfl rfl (ta_cons (v := (.int .i64 0)) rfl rfl rfl (ta_cons (v := (.int .i64 (w64 (g_1.1 - 1)))) rfl rfl rfl ta_nil))) (H.c56 _ _ _ _ E_r_30) H.g56 rfl rfl rfl rfl ?_)
        refine g_yes (Eq.trans (b := .bool (!r_29)) rfl (congrArg V.bool hg8)) (g_v1 (t := 30) (u := (.bool r_30)) (.bool (!r_30)) rfl rfl rfl ?_)
        refine g_v2 (t1 := 24) (t2 := 31) (u1 := (.bool false)) (u2 := (.bool (!r_30))) (.bool (!r_30)) (Eq.trans (b := .bool (!r_29)) rfl (congrArg V.bool hg8)) rfl rfl rfl ?_
        refine g_v1 (t := 32) (u := (.bool (!r_30))) (.bool (!r_30)) rfl rfl rfl ?_
        refine split_on (c := (!r_30)) h (fun hg17 h => ?_) (fun hg17 h => ?_)
        · refine g_no (Eq.trans (b := .bool (!r_30)) rfl (congrArg V.bool hg17)) ?_
          refine g_no (Eq.trans (b := .bool (!r_30)) rfl (congrArg V.bool hg17)) ?_
          refine g_no (Eq.trans (b := .bool (!r_30)) rfl (congrArg V.bool hg17)) ?_
          refine g_no (Eq.trans (b := .bool (!r_30)) rfl (congrArg V.bool hg17)) ?_
          refine g_no (Eq.trans (b := .bool (!r_30)) rfl (congrArg V.bool hg17)) ?_
          refine g_v2 (t1 := 33) (t2 := 38) (u1 := (.bool true)) (u2 := (.tup [])) (.bool true) (Eq.trans (b := .bool (!r_30)) rfl (congrArg V.bool hg17)) rfl rfl rfl ?_
          refine g_v1 (t := 39) (u := (.bool true)) (.bool true) rfl rfl rfl ?_
          refine g_no rfl ?_
          refine g_no rfl ?_
          refine g_no rfl ?_
          refine g_skip rfl ?_
          refine g_skip rfl ?_
          refine g_skip rfl ?_
          refine g_skip rfl ?_
          refine g_skip rfl ?_
          refine g_skip rfl ?_
          refine g_skip rfl ?_
          refine g_skip rfl ?_
          refine g_skip rfl ?_
          refine g_no rfl ?_
          refine g_v2 (t1 := 40) (t2 := 53) (u1 := (.bool true)) (u2 := (.tup [])) (.bool true) rfl rfl rfl rfl ?_
          refine g_end ?_
          refine e_end ?_
          refine renew [(1, (.ref (.bx 1) 0 [] (.agg [(.int .i64 g_1.1), (Enc.enc (g_1.2 : List (Int × Int)))]))), (2, (.bool false)), (3, (.int .i64 i_12)), (54, (.bool true))] ⟨h1, h2, h3, rfl⟩ ?_
          rintro s ⟨h1, h2, h3, h54⟩
          exact t_f30_j3 H g_1 i_12 (s_l2Good_l1 F g_1 k) ih true _ ⟨h1, h2, h3, h54⟩ h
        · refine g_yes (Eq.trans (b := .bool (!r_30)) rfl (congrArg V.bool hg17)) (g_v1 (t := 4) (u := (.ref (.bx 4) 0 [] (.agg [(.int .i64 e_23.1), (.int .i64 e_23.2)]))) (.ref (.bx 4) 0 [0] (.int .i64 e_23.1)) h4 rfl rfl ?_)
          refine g_yes (Eq.trans (b := .bool (!r_30)) rfl (congrArg V.bool hg17)) (g_v1 (t := 34) (u := (.ref (.bx 4) 0 [0] (.int .i64 e_23.1))) (.int .i64 e_23.1) rfl rfl rfl ?_)
          refine g_yes (Eq.trans (b := .bool (!r_30)) rfl (congrArg V.bool hg17)) (g_v1 (t := 4) (u := (.ref (.bx 4) 0 [] (.agg [(.int .i64 e_23.1), (.int .i64 e_23.2)]))) (.ref (.bx 4) 0 [1] (.int .i64 e_23.2)) h4 rfl rfl ?_)
          refine g_yes (Eq.trans (b := .bool (!r_30)) rfl (congrArg V.bool hg17)) (g_v1 (t := 36) (u := (.ref (.bx 4) 0 [1] (.int .i64 e_23.2))) (.int .i64 e_23.2) rfl rfl rfl ?_)
          refine g_yes (Eq.trans (b := .bool (!r_30)) rfl (congrArg V.bool hg17)) (g_v2 (t1 := 35) (t2 := 37) (u1 := (.int .i64 e_23.1)) (u2 := (.int .i64 e_23.2)) (.bool (decide (e_23.1 ≥ e_23.2))) rfl rfl rfl rfl ?_)
          refine g_v2 (t1 := 33) (t2 := 38) (u1 := (.bool false)) (u2 := (.bool (decide (e_23.1 ≥ e_23.2)))) (.bool (decide (e_23.1 ≥ e_23.2))) (Eq.trans (b := .bool (!r_30)) rfl (congrArg V.bool hg17)) rfl rfl rfl ?_
          refine g_v1 (t := 39) (u := (.bool (decide (e_23.1 ≥ e_23.2)))) (.bool (decide (e_23.1 ≥ e_23.2))) rfl rfl rfl ?_
          refine split_on (c := decide (e_23.1 ≥ e_23.2)) h (fun hg24 h => ?_) (fun hg24 h => ?_)
          · refine g_no (Eq.trans (b := .bool (decide (e_23.1 ≥ e_23.2))) rfl (congrArg V.bool hg24)) ?_
            refine g_no (Eq.trans (b := .bool (decide (e_23.1 ≥ e_23.2))) rfl (congrArg V.bool hg24)) ?_
            refine g_no (Eq.trans (b := .bool (decide (e_23.1 ≥ e_23.2))) rfl (congrArg V.bool hg24)) ?_
            refine g_skip rfl ?_
            refine g_skip rfl ?_
            refine g_skip rfl ?_
            refine g_skip rfl ?_
            refine g_skip rfl ?_
            refine g_skip rfl ?_
            refine g_skip rfl ?_
            refine g_skip rfl ?_
            refine g_skip rfl ?_
            refine g_no (Eq.trans (b := .bool (decide (e_23.1 ≥ e_23.2))) rfl (congrArg V.bool hg24)) ?_
            refine g_v2 (t1 := 40) (t2 := 53) (u1 := (.bool true)) (u2 := (.tup [])) (.bool true) (Eq.trans (b := .bool (decide (e_23.1 ≥ e_23.2))) rfl (congrArg V.bool hg24)) rfl rfl rfl ?_
            refine g_end ?_
            refine e_end ?_
            refine renew [(1, (.ref (.bx 1) 0 [] (.agg [(.int .i64 g_1.1), (Enc.enc (g_1.2 : List (Int × Int)))]))), (2, (.bool false)), (3, (.int .i64 i_12)), (54, (.bool true))] ⟨h1, h2, h3, rfl⟩ ?_
            rintro s ⟨h1, h2, h3, h54⟩
            exact t_f30_j3 H g_1 i_12 (s_l2Good_l1 F g_1 k) ih true _ ⟨h1, h2, h3, h54⟩ h
          · refine g_yes (Eq.trans (b := .bool (decide (e_23.1 ≥ e_23.2))) rfl (congrArg V.bool hg24)) (g_v1 (t := 3) (u := (.int .i64 i_12)) (.int .i64 i_12) h3 rfl rfl ?_)
            refine g_yes (Eq.trans (b := .bool (decide (e_23.1 ≥ e_23.2))) rfl (congrArg V.bool hg24)) (g_v1 (t := 41) (u := (.int .i64 i_12)) (.bool (decide (i_12 > 0))) rfl rfl rfl ?_)
            refine g_yes (Eq.trans (b := .bool (decide (e_23.1 ≥ e_23.2))) rfl (congrArg V.bool hg24)) (g_v1 (t := 42) (u := (.bool (decide (i_12 > 0)))) (.bool (decide (i_12 > 0))) rfl rfl rfl ?_)
            refine split_on (c := decide (i_12 > 0)) h (fun hg27 h => ?_) (fun hg27 h => ?_)
            · refine g_yes (Eq.trans (b := .bool (decide (i_12 > 0))) rfl (congrArg V.bool hg27)) (g_v1 (t := 1) (u := (.ref (.bx 1) 0 [] (.agg [(.int .i64 g_1.1), (Enc.enc (g_1.2 : List (Int × Int)))]))) (.ref (.bx 1) 0 [1] (Enc.enc (g_1.2 : List (Int × Int)))) h1 rfl rfl ?_)
              refine g_yes (Eq.trans (b := .bool (decide (i_12 > 0))) rfl (congrArg V.bool hg27)) (g_v1 (t := 44) (u := (.ref (.bx 1) 0 [1] (Enc.enc (g_1.2 : List (Int × Int))))) (Enc.enc (g_1.2 : List (Int × Int))) rfl rfl rfl ?_)
              refine g_yes (Eq.trans (b := .bool (decide (i_12 > 0))) rfl (congrArg V.bool hg27)) (g_v1 (t := 3) (u := (.int .i64 i_12)) (.int .i64 i_12) h3 rfl rfl ?_)
              refine g_yes (Eq.trans (b := .bool (decide (i_12 > 0))) rfl (congrArg V.bool hg27)) (g_v1 (t := 46) (u := (.int .i64 i_12)) (.int .i64 (w64 (i_12 - 1))) rfl rfl rfl ?_)
              obtain ⟨e_31, E_e_31, h⟩ := bind_some h
              refine g_yes (Eq.trans (b := .bool (decide (i_12 > 0))) rfl (congrArg V.bool hg27)) (g_v (.ref .sh 0 [] (.agg [(.int .i64 e_31.1), (.int .i64 e_31.2)])) (ev_idx (t := .sh) (lo := 0) (xs := g_1.2) rfl rfl E_e_31 rfl rfl) ?_)
              refine g_yes (Eq.trans (b := .bool (decide (i_12 > 0))) rfl (congrArg V.bool hg27)) (g_v1 (t := 48) (u := (.ref .sh 0 [] (.agg [(.int .i64 e_31.1), (.int .i64 e_31.2)]))) (.agg [(.int .i64 e_31.1), (.int .i64 e_31.2)]) rfl rfl rfl ?_)
              refine g_yes (Eq.trans (b := .bool (decide (i_12 > 0))) rfl (congrArg V.bool hg27)) (g_v1 (t := 4) (u := (.ref (.bx 4) 0 [] (.agg [(.int .i64 e_23.1), (.int .i64 e_23.2)]))) (.agg [(.int .i64 e_23.1), (.int .i64 e_23.2)]) h4 rfl rfl ?_)
              obtain ⟨r_32, E_r_32, h⟩ := bind_some h
              refine g_yes (Eq.trans (b := .bool (decide (i_12 > 0))) rfl (congrArg V.bool hg27)) (g_call (m := 0) (al := false) (r := (Enc.enc (r_32 : Bool))) [Enc.enc (e_31 : (Int × Int)), Enc.enc (e_23 : (Int × Int))] (ta_cons (v := (.agg [(.int .i64 e_31.1), (.int .i64 e_31.2)])) rfl rfl (Enc.erase_enc (e_31 : (Int × Int))) (ta_cons (v := (.agg [(.int .i64 e_23.1), (.int .i64 e_23.2)])) rfl rfl (Enc.erase_enc (e_23 : (Int × Int))) ta_nil)) (H.c57 _ _ _ E_r_32) H.g57 rfl rfl rfl rfl ?_)
              refine g_yes (Eq.trans (b := .bool (decide (i_12 > 0))) rfl (congrArg V.bool hg27)) (g_v1 (t := 51) (u := (.bool r_32)) (.bool (!r_32)) rfl rfl rfl ?_)
              refine g_yes (Eq.trans (b := .bool (decide (e_23.1 ≥ e_23.2))) rfl (congrArg V.bool hg24)) (g_v2 (t1 := 43) (t2 := 52) (u1 := (.bool true)) (u2 := (.bool (!r_32))) (.bool (!r_32)) (Eq.trans (b := .bool (decide (i_12 > 0))) rfl (congrArg V.bool hg27)) rfl rfl rfl ?_)
              refine g_v2 (t1 := 40) (t2 := 53) (u1 := (.bool false)) (u2 := (.bool (!r_32))) (.bool (!r_32)) (Eq.trans (b := .bool (decide (e_23.1 ≥ e_23.2))) rfl (congrArg V.bool hg24)) rfl rfl rfl ?_
              refine g_end ?_
              refine e_end ?_
              refine renew [(1, (.ref (.bx 1) 0 [] (.agg [(.int .i64 g_1.1), (Enc.enc (g_1.2 : List (Int × Int)))]))), (2, (.bool false)), (3, (.int .i64 i_12)), (54, (.bool (!r_32)))] ⟨h1, h2, h3, rfl⟩ ?_
              rintro s ⟨h1, h2, h3, h54⟩
              exact t_f30_j3 H g_1 i_12 (s_l2Good_l1 F g_1 k) ih (!r_32) _ ⟨h1, h2, h3, h54⟩ h
            · refine g_no (Eq.trans (b := .bool (decide (i_12 > 0))) rfl (congrArg V.bool hg27)) ?_
              refine g_no (Eq.trans (b := .bool (decide (i_12 > 0))) rfl (congrArg V.bool hg27)) ?_
              refine g_no (Eq.trans (b := .bool (decide (i_12 > 0))) rfl (congrArg V.bool hg27)) ?_
              refine g_no (Eq.trans (b := .bool (decide (i_12 > 0))) rfl (congrArg V.bool hg27)) ?_
              refine g_no (Eq.trans (b := .bool (decide (i_12 > 0))) rfl (congrArg V.bool hg27)) ?_
              refine g_no (Eq.trans (b := .bool (decide (i_12 > 0))) rfl (congrArg V.bool hg27)) ?_
              refine g_no (Eq.trans (b := .bool (decide (i_12 > 0))) rfl (congrArg V.bool hg27)) ?_
              refine g_no (Eq.trans (b := .bool (decide (i_12 > 0))) rfl (congrArg V.bool hg27)) ?_
              refine g_no (Eq.trans (b := .bool (decide (i_12 > 0))) rfl (congrArg V.bool hg27)) ?_
              refine g_yes (Eq.trans (b := .bool (decide (e_23.1 ≥ e_23.2))) rfl (congrArg V.bool hg24)) (g_v2 (t1 := 43) (t2 := 52) (u1 := (.bool false)) (u2 := (.tup [])) (.bool false) (Eq.trans (b := .bool (decide (i_12 > 0))) rfl (congrArg V.bool hg27)) rfl rfl rfl ?_)
              refine g_v2 (t1 := 40) (t2 := 53) (u1 := (.bool false)) (u2 := (.bool false)) (.bool false) (Eq.trans (b := .bool (decide (e_23.1 ≥ e_23.2))) rfl (congrArg V.bool hg24)) rfl rfl rfl ?_
              refine g_end ?_
              refine e_end ?_
              refine renew [(1, (.ref (.bx 1) 0 [] (.agg [(.int .i64 g_1.1), (Enc.enc (g_1.2 : List (Int × Int)))]))), (2, (.bool false)), (3, (.int .i64 i_12)), (54, (.bool false))] ⟨h1, h2, h3, rfl⟩ ?_
              rintro s ⟨h1, h2, h3, h54⟩
              exact t_f30_j3 H g_1 i_12 (s_l2Good_l1 F g_1 k) ih false _ ⟨h1, h2, h3, h54⟩ h
    · refine .exit ?_
      refine .esq ?_
      refine .elp ?_
      refine .ebk ?_
      refine .nsq ?_
      refine .seq ?_
      refine run_reg ?_
      refine e_end ?_
      refine g_v1 (t := 1) (u := (.ref (.bx 1) 0 [] (.agg [(.int .i64 g_1.1), (Enc.enc (g_1.2 : List (Int × Int)))]))) (.ref (.bx 1) 0 [0] (.int .i64 g_1.1)) h1 rfl rfl ?_
      refine g_v1 (t := 55) (u := (.ref (.bx 1) 0 [0] (.int .i64 g_1.1))) (.int .i64 g_1.1) rfl rfl rfl ?_
      obtain ⟨r_33, E_r_33, h⟩ := bind_some h
      refine g_call (m := 0) (al := false) (r := (Enc.enc (r_33 : Bool))) [Enc.enc (g_1.1 : Int), Enc.enc (0 : Int), Enc.enc (8 : Int)] (ta_cons (v := (.int .i64 g_1.1)) rfl rfl rfl (ta_cons (v := (.int .i64 0)) rfl rfl rfl (ta_cons (v := (.int .i64 8)) rfl rfl rfl ta_nil))) (H.c56 _ _ _ _ E_r_33) H.g56 rfl rfl rfl rfl ?_
      refine g_v1 (t := 57) (u := (.bool r_33)) (.bool r_33) rfl rfl rfl ?_
      refine g_end ?_
      refine e_end ?_
      refine renew [(2, (.bool r_33))] rfl ?_
      rintro s h2
      refine .nsq ?_
      refine .ret ?_
      have hr := Option.some.inj h
      subst hr
      exact rrA (res_tmp h2) rfl
def s_l2Good (F : Nat) (g_1 : (Int × (List (Int × Int)))) : Option Bool :=
  s_l2Good_l1 F g_1 F 0
theorem t30 (H : H30 D σ F) (g_1 : (Int × (List (Int × Int)))) (s : Nat → V) (hs : Facts [(0, (.agg [(.int .i64 g_1.1), (Enc.enc (g_1.2 : List (Int × Int)))]))] s) (h : s_l2Good F g_1 = some r) : Run D σ (R30 r) (.run A30 []) s := by
  unfold s_l2Good at h
  have h0 := hs
  refine .seq ?_
  refine run_reg ?_
  refine e_clr ?_
  refine e_end ?_
  refine g_box (.agg [(.int .i64 g_1.1), (Enc.enc (g_1.2 : List (Int × Int)))]) (rd_of (keep_clear (s := s) (pk := [1]) h0 rfl (map_agg (maps_cons rfl (maps_cons (Enc.map_enc _ (g_1.2 : List (Int × Int))) maps_nil)))) rfl) (gone_clear (s := s) (pk := [1]) (t := 1) rfl) rfl ?_
  refine g_v0 (.bool false) rfl rfl ?_
  refine g_end ?_
  refine e_end ?_
  refine renew [(1, (.ref (.bx 1) 0 [] (.agg [(.int .i64 g_1.1), (Enc.enc (g_1.2 : List (Int × Int)))]))), (2, (.bool false))] ⟨rfl, rfl⟩ ?_
  rintro s ⟨h1, h2⟩
  refine .nsq ?_
  refine .seq ?_
  refine .seq ?_
  refine run_reg ?_
  refine e_end ?_
  refine g_v0 (.int .i64 0) rfl rfl ?_
  refine g_end ?_
  refine e_end ?_
  refine renew [(1, (.ref (.bx 1) 0 [] (.agg [(.int .i64 g_1.1), (Enc.enc (g_1.2 : List (Int × Int)))]))), (2, (.bool false)), (3, (.int .i64 0))] ⟨h1, h2, rfl⟩ ?_
  rintro s ⟨h1, h2, h3⟩
  refine .nsq ?_
  refine .block ?_
  refine .loop ?_
  exact t_f30_l1 H g_1 F 0 _ ⟨h1, h2, h3⟩ h
end
def e30 (F : Nat) : Ent := ⟨30, dn1 (s_l2Good F) (fun (r : Bool) => (Enc.enc (r : Bool))), 0, false⟩
theorem o30 {D : Den} {σ : Sig} {F : Nat} (hF : Fits2 Try.prog D σ) (H : H30 D σ F) : (e30 F).Ok Try.prog := by
  refine ⟨fun args r h => ?_, ⟨Try.f30, Try.func30, rfl, rfl⟩⟩
  obtain ⟨x0, y, rfl, hy, rfl⟩ := dn1_open h
  exact contract_run hF (by kernel_rfl) Try.func30 rfl c30 (show 1 ≤ Try.f30.ntmps by decide) (t30 H x0 _ rfl hy)
/- loop.example/g01109/spec.l7Above -/
def A65_2 : AC := (AC.cond (O.t 18) AC.skip (AC.exit 0))
def A65_4 : AC := (AC.reg [.clr [25, 26]] [(I.mk (some 23) none false (X.v (A.mov (O.t 5)))), (I.mk (some 24) none false (X.v (A.mov (O.t 1)))), (I.mk (some 25) none false (X.lit (V.int IntKind.i64 (Int.ofNat 0)) 1 [(0, 0, (O.t 24))])), (I.mk (some 26) none false (X.app Sh.s (O.t 23) (O.t 25))), (I.mk (some 5) none false (X.v (A.mov (O.t 26))))] [.home 26 5])
def A65_3 : AC := (AC.block 1 (AC.seq (AC.reg [] [(I.mk (some 19) none false (X.v (A.mov (O.t 0)))), (I.mk (some 20) none false (X.v (A.mov (O.t 1)))), (I.mk (some 21) none false (X.v (A.idx (O.t 19) (O.t 20) 1))), (I.mk (some 22) none false (X.v (A.load Sh.s (O.t 21)))), (I.mk (some 1) none false (X.v (A.mov (O.t 22))))] []) A65_4))
def A65_1 : AC := (AC.seq (AC.seq (AC.reg [] [(I.mk (some 7) none false (X.v (A.mov (O.t 0)))), (I.mk (some 8) none false (X.v (A.mov (O.t 1)))), (I.mk (some 9) none false (X.v (A.idx (O.t 7) (O.t 8) 1))), (I.mk (some 10) none false (X.v (A.load Sh.s (O.t 9)))), (I.mk (some 11) none false (X.v (A.bin BinOp.geq (O.t 10) (O.k (V.int IntKind.i64 (Int.ofNat 0)))))), (I.mk (some 12) none false (X.v (A.mov (O.t 11)))), (I.mk (some 13) (some (12, true)) false (X.v (A.mov (O.t 5)))), (I.mk (some 14) (some (12, true)) false (X.v (A.len (O.t 13)))), (I.mk (some 15) (some (12, true)) false (X.v (A.mov (O.t 0)))), (I.mk (some 16) (some (12, true)) false (X.v (A.len (O.t 15)))), (I.mk (some 17) (some (12, true)) false (X.v (A.bin BinOp.leq (O.t 14) (O.t 16)))), (I.mk (some 18) none false (X.v (A.pick (O.t 12) (O.t 17) (O.k (V.bool false)))))] []) A65_2) A65_3)
def A65_5 : AC := (AC.seq (AC.reg [] [(I.mk (some 27) none false (X.v (A.mov (O.t 5)))), (I.mk (some 4) none false (X.v (A.mov (O.t 27))))] [.home 5 4]) AC.ret)
def A65_7 : AC := (AC.seq (AC.block 0 (AC.loop A65_1)) A65_5)
def A65_6 : AC := (AC.seq (AC.reg [.clr [6]] [(I.mk (some 6) none false (X.lit (V.int IntKind.i64 (Int.ofNat 0)) 0 [])), (I.mk (some 5) none false (X.v (A.mov (O.t 6))))] [.home 6 5]) A65_7)
def A65 : AC := (AC.seq (AC.reg [] [(I.mk (some 4) none false (X.v (A.mov (O.k (V.sl Tok.nl Sh.s 0 [])))))] []) A65_6)
def an65 : List An := [{ id := 1, pre := [.clr [6]], ep := [.home 6 5] }, { id := 4, pre := [.clr [25, 26]], ep := [.home 26 5] }, { id := 5, pre := [], ep := [.home 5 4] }]
theorem c65 : cC Try.prog Try.f65.ntmps an65 (Try.f65.body.getD .skip) = some A65 := by rfl
structure H65 (D : Den) (σ : Sig) (F : Nat) : Prop where
  mk ::
abbrev R65 (r : (List Int)) : (Nat → V) → Prop := RR Try.prog [.tmp 4] 0 true (Enc.enc (r : (List Int)))
section
variable {D : Den} {σ : Sig} {F : Nat} {r : (List Int)}
def s_l7Above_j3 (F : Nat) (parents_1 : (List Int)) (x_8 : Int) (out_9 : (List Int)) (c1 : Int → (List Int) → Option (List Int)) (t18_16 : Bool) : Option (List Int) :=
  bif t18_16 then
    (idx parents_1 x_8).bind fun e_17 =>
    (appL out_9 [e_17]).bind fun ap_18 =>
    c1 e_17 ap_18
  else
    some out_9
theorem t_f65_j3 (H : H65 D σ F) (parents_1 : (List Int)) (x_8 : Int) (out_9 : (List Int)) (c1 : Int → (List Int) → Option (List Int)) (Hc1 : ∀ (x_8 : Int) (out_9 : (List Int)) (s : Nat → V), Facts [(0, (Enc.enc (parents_1 : List Int))), (1, (.int .i64 x_8)), (4, (.sl .nl (Enc.shp Int) 0 [])), (5, (encO (.at 5 []) (.of (out_9 : List Int))))] s → c1 x_8 out_9 = some r → Run D σ (R65 r) (.run A65_1 [.lp A65_1, .bk 0, .sq A65_5]) s) (t18_16 : Bool) (s : Nat → V) (hs : Facts [(0, (Enc.enc (parents_1 : List Int))), (1, (.int .i64 x_8)), (4, (.sl .nl (Enc.shp Int) 0 [])), (5, (encO (.at 5 []) (.of (out_9 : List Int)))), (18, (.bool t18_16))] s) (h : s_l7Above_j3 F parents_1 x_8 out_9 c1 t18_16 = some r) : Run D σ (R65 r) (.nrm [.sq A65_2, .sq A65_3, .lp A65_1, .bk 0, .sq A65_5]) s := by
  unfold s_l7Above_j3 at h
  obtain ⟨h0, h1, h4, h5, h18⟩ := hs
  refine .nsq ?_
  refine run_cond (t := t18_16) h18 h (fun h => ?_) (fun h => ?_)
  · refine .skip ?_
    refine .nsq ?_
    refine .block ?_
    refine .seq ?_
    refine run_reg ?_
    refine e_end ?_
    refine g_v1 (t := 0) (u := (Enc.enc (parents_1 : List Int))) (Enc.enc (parents_1 : List Int)) h0 rfl rfl ?_
    refine g_v1 (t := 1) (u := (.int .i64 x_8)) (.int .i64 x_8) h1 rfl rfl ?_
    obtain ⟨e_17, E_e_17, h⟩ := bind_some h
    refine g_v (.ref .sh 0 [] (.int .i64 e_17)) (ev_idx (t := .sh) (lo := 0) (xs := parents_1) rfl rfl E_e_17 rfl rfl) ?_
    refine g_v1 (t := 21) (u := (.ref .sh 0 [] (.int .i64 e_17))) (.int .i64 e_17) rfl rfl rfl ?_
    refine g_v1 (t := 22) (u := (.int .i64 e_17)) (.int .i64 e_17) rfl rfl rfl ?_
    refine g_end ?_
    refine e_end ?_
    refine renew [(0, (Enc.enc (parents_1 : List Int))), (1, (.int .i64 e_17)), (4, (.sl .nl (Enc.shp Int) 0 [])), (5, (encO (.at 5 []) (.of (out_9 : List Int))))] ⟨h0, rfl, h4, h5⟩ ?_
    rintro s ⟨h0, h1, h4, h5⟩
    refine .nsq ?_
    refine run_reg ?_
    refine e_clr ?_
    refine e_end ?_
    refine g_v1 (t := 5) (u := (encO (.at 5 []) (.of (out_9 : List Int)))) (encO (.at 5 []) (.of (out_9 : List Int))) (keep_clear (s := s) (pk := [25, 26]) h5 rfl (map_encO (r := 5) (p := []) rfl rfl)) rfl rfl ?_
    refine g_v1 (t := 1) (u := (.int .i64 e_17)) (.int .i64 e_17) (keep_clear (s := s) (pk := [25, 26]) h1 rfl rfl) rfl rfl ?_
    refine g_litL [(24, (.int .i64 e_17))] [Enc.enc (e_17 : Int)] rfl rfl rfl (gone_clear (s := s) (pk := [25, 26]) (t := 25) rfl) ?_
    obtain ⟨ap_18, E_ap_18, h⟩ := bind_some h
    refine g_app (q := 5) (p := []) (o := (.of (out_9 : List Int))) (ys := ([e_17] : List Int)) (t2 := (.at 25 [])) (lo2 := 0) rfl rfl rfl (gone_clear (s := s) (pk := [25, 26]) (t := 26) rfl) (appN_L (o := (.of (out_9 : List Int))) E_ap_18 trivial) (fun s_10 ha_10 => ?_)
    refine g_v1 (t := 26) (u := (encO (.at 26 []) (.of (ap_18 : List Int)))) (encO (.at 26 []) (.of (ap_18 : List Int))) rfl rfl rfl ?_
    refine g_end ?_
    refine e_home (r := 26) (x := 5) (v := (encO (.at 26 []) (.of (ap_18 : List Int)))) (by exact rfl) rfl (fun s_11 hg_11 => ?_)
    refine e_end ?_
    refine renew [(0, (Enc.enc (parents_1 : List Int))), (1, (.int .i64 e_17)), (4, (.sl .nl (Enc.shp Int) 0 [])), (5, (encO (.at 5 []) (.of (ap_18 : List Int))))] ⟨(hg_11 0 (Enc.enc (parents_1 : List Int)) (Enc.enc (parents_1 : List Int)) (show s_10 0 = (Enc.enc (parents_1 : List Int)) from keep_app ha_10 (keep_clear (s := s) (pk := [25, 26]) h0 rfl (Enc.map_enc _ (parents_1 : List Int))) (Enc.map_enc _ (parents_1 : List Int))) (Enc.map_enc _ (parents_1 : List Int))), (hg_11 1 (.int .i64 e_17) (.int .i64 e_17) (show s_10 1 = (.int .i64 e_17) from keep_app ha_10 (keep_clear (s := s) (pk := [25, 26]) h1 rfl rfl) rfl) rfl), (hg_11 4 (.sl .nl (Enc.shp Int) 0 []) (.sl .nl (Enc.shp Int) 0 []) (show s_10 4 = (.sl .nl (Enc.shp Int) 0 []) from keep_app ha_10 (keep_clear (s := s) (pk := [25, 26]) h4 rfl rfl) rfl) rfl), (hg_11 5 (encO (.at 26 []) (.of (ap_18 : List Int))) (encO (.at 5 []) (.of (ap_18 : List Int))) rfl (map_encO (r := 26) (p := []) rfl rfl))⟩ ?_
    rintro s ⟨h0, h1, h4, h5⟩
    refine .nbk ?_
    refine .nlp ?_
    exact Hc1 e_17 ap_18 _ ⟨h0, h1, h4, h5⟩ h
  · refine .exit ?_
    refine .esq ?_
    refine .elp ?_
    refine .ebk ?_
    refine .nsq ?_
    refine .seq ?_
    refine run_reg ?_
    refine e_end ?_
    refine g_v1 (t := 5) (u := (encO (.at 5 []) (.of (out_9 : List Int)))) (encO (.at 5 []) (.of (out_9 : List Int))) h5 rfl rfl ?_
    refine g_v1 (t := 27) (u := (encO (.at 5 []) (.of (out_9 : List Int)))) (encO (.at 5 []) (.of (out_9 : List Int))) rfl rfl rfl ?_
    refine g_end ?_
    refine e_home (r := 5) (x := 4) (v := (encO (.at 5 []) (.of (out_9 : List Int)))) (by exact rfl) rfl (fun s_12 hg_12 => ?_)
    refine e_end ?_
    refine renew [(4, (encO (.at 4 []) (.of (out_9 : List Int))))] (hg_12 4 (encO (.at 5 []) (.of (out_9 : List Int))) (encO (.at 4 []) (.of (out_9 : List Int))) rfl (map_encO (r := 5) (p := []) rfl rfl)) ?_
    rintro s h4
    refine .nsq ?_
    refine .ret ?_
    have hr := Option.some.inj h
    subst hr
    exact rrA (res_tmp h4) (fin_ret1 (fin_own (o := .of out_9)))
def s_l7Above_l1 (F : Nat) (parents_1 : (List Int))  : Nat → Int → (List Int) → Option (List Int)
  | 0, _, _ => none
  | k + 1, x_8, out_9 =>
    (idx parents_1 x_8).bind fun e_19 =>
    bif decide (e_19 ≥ 0) then
      s_l7Above_j3 F parents_1 x_8 out_9 (s_l7Above_l1 F parents_1 k) (decide ((out_9.length : Int) ≤ (parents_1.length : Int)))
    else
      s_l7Above_j3 F parents_1 x_8 out_9 (s_l7Above_l1 F parents_1 k) false
theorem t_f65_l1 (H : H65 D σ F) (parents_1 : (List Int))  : ∀ (k : Nat) (x_8 : Int) (out_9 : (List Int)) (s : Nat → V), Facts [(0, (Enc.enc (parents_1 : List Int))), (1, (.int .i64 x_8)), (4, (.sl .nl (Enc.shp Int) 0 [])), (5, (encO (.at 5 []) (.of (out_9 : List Int))))] s → s_l7Above_l1 F parents_1 k x_8 out_9 = some r → Run D σ (R65 r) (.run A65_1 [.lp A65_1, .bk 0, .sq A65_5]) s := by
  intro k
  induction k with
  | zero => intro x_8 out_9 s _ h; exact nomatch (h : (none : Option _) = some r)
  | succ k ih =>
    intro x_8 out_9 s hs h
    rw [s_l7Above_l1] at h
    obtain ⟨h0, h1, h4, h5⟩ := hs
    refine .seq ?_
    refine .seq ?_
    refine run_reg ?_
    refine e_end ?_
    refine g_v1 (t := 0) (u := (Enc.enc (parents_1 : List Int))) (Enc.enc (parents_1 : List Int)) h0 rfl rfl ?_
    refine g_v1 (t := 1) (u := (.int .i64 x_8)) (.int .i64 x_8) h1 rfl rfl ?_
    obtain ⟨e_19, E_e_19, h⟩ := bind_some h
    refine g_v (.ref .sh 0 [] (.int .i64 e_19)) (ev_idx (t := .sh) (lo := 0) (xs := parents_1) rfl rfl E_e_19 rfl rfl) ?_
    refine g_v1 (t := 9) (u := (.ref .sh 0 [] (.int .i64 e_19))) (.int .i64 e_19) rfl rfl rfl ?_
    refine g_v1 (t := 10) (u := (.int .i64 e_19)) (.bool (decide (e_19 ≥ 0))) rfl rfl rfl ?_
    refine g_v1 (t := 11) (u := (.bool (decide (e_19 ≥ 0)))) (.bool (decide (e_19 ≥ 0))) rfl rfl rfl ?_
    refine split_on (c := decide (e_19 ≥ 0)) h (fun hg6 h => ?_) (fun hg6 h => ?_)
    · refine g_yes (Eq.trans (b := .bool (decide (e_19 ≥ 0))) rfl (congrArg V.bool hg6)) (g_v1 (t := 5) (u := (encO (.at 5 []) (.of (out_9 : List Int)))) (encO (.at 5 []) (.of (out_9 : List Int))) h5 rfl rfl ?_)
      refine g_yes (Eq.trans (b := .bool (decide (e_19 ≥ 0))) rfl (congrArg V.bool hg6)) (g_v (.int .i64 (out_9.length : Int)) (ev_lenO (o := .of out_9) rfl) ?_)
      refine g_yes (Eq.trans (b := .bool (decide (e_19 ≥ 0))) rfl (congrArg V.bool hg6)) (g_v1 (t := 0) (u := (Enc.enc (parents_1 : List Int))) (Enc.enc (parents_1 : List Int)) h0 rfl rfl ?_)
      refine g_yes (Eq.trans (b := .bool (decide (e_19 ≥ 0))) rfl (congrArg V.bool hg6)) (g_v (.int .i64 (parents_1.length : Int)) (ev_len (xs := parents_1) rfl) ?_)
      refine g_yes (Eq.trans (b := .bool (decide (e_19 ≥ 0))) rfl (congrArg V.bool hg6)) (g_v2 (t1 := 14) (t2 := 16) (u1 := (.int .i64 (out_9.length : Int))) (u2 := (.int .i64 (parents_1.length : Int))) (.bool (decide ((out_9.length : Int) ≤ (parents_1.length : Int)))) rfl rfl rfl rfl ?_)
      refine g_v2 (t1 := 12) (t2 := 17) (u1 := (.bool true)) (u2 := (.bool (decide ((out_9.length : Int) ≤ (parents_1.length : Int))))) (.bool (decide ((out_9.length : Int) ≤ (parents_1.length : Int)))) (Eq.trans (b := .bool (decide (e_19 ≥ 0))) rfl (congrArg V.bool hg6)) rfl rfl rfl ?_
      refine g_end ?_
      refine e_end ?_
      refine renew [(0, (Enc.enc (parents_1 : List Int))), (1, (.int .i64 x_8)), (4, (.sl .nl (Enc.shp Int) 0 [])), (5, (encO (.at 5 []) (.of (out_9 : List Int)))), (18, (.bool (decide ((out_9.length : Int) ≤ (parents_1.length : Int)))))] ⟨h0, h1, h4, h5, rfl⟩ ?_
      rintro s ⟨h0, h1, h4, h5, h18⟩
      exact t_f65_j3 H parents_1 x_8 out_9 (s_l7Above_l1 F parents_1 k) ih (decide ((out_9.length : Int) ≤ (parents_1.length : Int))) _ ⟨h0, h1, h4, h5, h18⟩ h
    · refine g_no (Eq.trans (b := .bool (decide (e_19 ≥ 0))) rfl (congrArg V.bool hg6)) ?_
      refine g_no (Eq.trans (b := .bool (decide (e_19 ≥ 0))) rfl (congrArg V.bool hg6)) ?_
      refine g_no (Eq.trans (b := .bool (decide (e_19 ≥ 0))) rfl (congrArg V.bool hg6)) ?_
      refine g_no (Eq.trans (b := .bool (decide (e_19 ≥ 0))) rfl (congrArg V.bool hg6)) ?_
      refine g_no (Eq.trans (b := .bool (decide (e_19 ≥ 0))) rfl (congrArg V.bool hg6)) ?_
      refine g_v2 (t1 := 12) (t2 := 17) (u1 := (.bool false)) (u2 := (.tup [])) (.bool false) (Eq.trans (b := .bool (decide (e_19 ≥ 0))) rfl (congrArg V.bool hg6)) rfl rfl rfl ?_
      refine g_end ?_
      refine e_end ?_
      refine renew [(0, (Enc.enc (parents_1 : List Int))), (1, (.int .i64 x_8)), (4, (.sl .nl (Enc.shp Int) 0 [])), (5, (encO (.at 5 []) (.of (out_9 : List Int)))), (18, (.bool false))] ⟨h0, h1, h4, h5, rfl⟩ ?_
      rintro s ⟨h0, h1, h4, h5, h18⟩
      exact t_f65_j3 H parents_1 x_8 out_9 (s_l7Above_l1 F parents_1 k) ih false _ ⟨h0, h1, h4, h5, h18⟩ h
def s_l7Above (F : Nat) (parents_1 : (List Int)) (x_2 : Int) : Option (List Int) :=
  s_l7Above_l1 F parents_1 F x_2 []
theorem t65 (H : H65 D σ F) (parents_1 : (List Int)) (x_2 : Int) (s : Nat → V) (hs : Facts [(0, (Enc.enc (parents_1 : List Int))), (1, (.int .i64 x_2))] s) (h : s_l7Above F parents_1 x_2 = some r) : Run D σ (R65 r) (.run A65 []) s := by
  unfold s_l7Above at h
  obtain ⟨h0, h1⟩ := hs
  refine .seq ?_
  refine run_reg ?_
  refine e_end ?_
  refine g_v0 (.sl .nl (Enc.shp Int) 0 []) rfl rfl ?_
  refine g_end ?_
  refine e_end ?_
  refine renew [(0, (Enc.enc (parents_1 : List Int))), (1, (.int .i64 x_2)), (4, (.sl .nl (Enc.shp Int) 0 []))] ⟨h0, h1, rfl⟩ ?_
  rintro s ⟨h0, h1, h4⟩
  refine .nsq ?_
  refine .seq ?_
  refine run_reg ?_
  refine e_clr ?_
  refine e_end ?_
  refine g_litL [] [] trivial rfl rfl (gone_clear (s := s) (pk := [6]) (t := 6) rfl) ?_
  refine g_v1 (t := 6) (u := (encO (.at 6 []) (.of ([] : List Int)))) (encO (.at 6 []) (.of ([] : List Int))) rfl rfl rfl ?_
  refine g_end ?_
  refine e_home (r := 6) (x := 5) (v := (encO (.at 6 []) (.of ([] : List Int)))) (by exact rfl) rfl (fun s_2 hg_2 => ?_)
  refine e_end ?_
  refine renew [(0, (Enc.enc (parents_1 : List Int))), (1, (.int .i64 x_2)), (4, (.sl .nl (Enc.shp Int) 0 [])), (5, (encO (.at 5 []) (.of ([] : List Int))))] ⟨(hg_2 0 (Enc.enc (parents_1 : List Int)) (Enc.enc (parents_1 : List Int)) (keep_clear (s := s) (pk := [6]) h0 rfl (Enc.map_enc _ (parents_1 : List Int))) (Enc.map_enc _ (parents_1 : List Int))), (hg_2 1 (.int .i64 x_2) (.int .i64 x_2) (keep_clear (s := s) (pk := [6]) h1 rfl rfl) rfl), (hg_2 4 (.sl .nl (Enc.shp Int) 0 []) (.sl .nl (Enc.shp Int) 0 []) (keep_clear (s := s) (pk := [6]) h4 rfl rfl) rfl), (hg_2 5 (encO (.at 6 []) (.of ([] : List Int))) (encO (.at 5 []) (.of ([] : List Int))) rfl (map_encO (r := 6) (p := []) rfl rfl))⟩ ?_
  rintro s ⟨h0, h1, h4, h5⟩
  refine .nsq ?_
  refine .seq ?_
  refine .block ?_
  refine .loop ?_
  exact t_f65_l1 H parents_1 F x_2 [] _ ⟨h0, h1, h4, h5⟩ h
end
def e65 (F : Nat) : Ent := ⟨65, dn2 (s_l7Above F) (fun (r : (List Int)) => (Enc.enc (r : (List Int)))), 0, true⟩
theorem o65 {D : Den} {σ : Sig} {F : Nat} (hF : Fits2 Try.prog D σ) (H : H65 D σ F) : (e65 F).Ok Try.prog := by
  refine ⟨fun args r h => ?_, ⟨Try.f65, Try.func65, rfl, rfl⟩⟩
  obtain ⟨x0, x1, y, rfl, hy, rfl⟩ := dn2_open h
  exact contract_run hF (by kernel_rfl) Try.func65 rfl c65 (show 2 ≤ Try.f65.ntmps by decide) (t65 H x0 x1 _ ⟨rfl, rfl⟩ hy)
/- loop.example/g01109/spec.l1Has -/
def A66_2 : AC := (AC.cond (O.t 9) AC.skip (AC.exit 0))
def A66_4 : AC := (AC.cond (O.t 17) (AC.seq (AC.reg [] [(I.mk (some 4) none false (X.v (A.mov (O.k (V.bool true)))))] []) AC.ret) AC.skip)
def A66_5 : AC := (AC.reg [] [(I.mk (some 10) none false (X.v (A.mov (O.t 5)))), (I.mk (some 11) none false (X.v (A.bin BinOp.add (O.t 10) (O.k (V.int IntKind.i64 (Int.ofNat 1)))))), (I.mk (some 5) none false (X.v (A.mov (O.t 11))))] [])
def A66_3 : AC := (AC.seq (AC.block 1 (AC.seq (AC.reg [] [(I.mk (some 12) none false (X.v (A.mov (O.t 0)))), (I.mk (some 13) none false (X.v (A.mov (O.t 5)))), (I.mk (some 14) none false (X.v (A.idx (O.t 12) (O.t 13) 1))), (I.mk (some 15) none false (X.v (A.load Sh.s (O.t 14)))), (I.mk (some 16) none false (X.v (A.mov (O.t 1)))), (I.mk (some 17) none false (X.v (A.bin BinOp.eql (O.t 15) (O.t 16))))] []) A66_4)) A66_5)
def A66_1 : AC := (AC.seq (AC.seq (AC.reg [] [(I.mk (some 6) none false (X.v (A.mov (O.t 5)))), (I.mk (some 7) none false (X.v (A.mov (O.t 0)))), (I.mk (some 8) none false (X.v (A.len (O.t 7)))), (I.mk (some 9) none false (X.v (A.bin BinOp.lss (O.t 6) (O.t 8))))] []) A66_2) A66_3)
def A66_6 : AC := (AC.seq (AC.reg [] [(I.mk (some 4) none false (X.v (A.mov (O.k (V.bool false)))))] []) AC.ret)
def A66_8 : AC := (AC.block 0 (AC.loop A66_1))
def A66_7 : AC := (AC.seq (AC.seq (AC.reg [] [(I.mk (some 5) none false (X.v (A.mov (O.k (V.int IntKind.i64 (Int.ofNat 0))))))] []) A66_8) A66_6)
def A66 : AC := (AC.seq (AC.reg [] [(I.mk (some 4) none false (X.v (A.mov (O.k (V.bool false)))))] []) A66_7)
def an66 : List An := []
theorem c66 : cC Try.prog Try.f66.ntmps an66 (Try.f66.body.getD .skip) = some A66 := by rfl
structure H66 (D : Den) (σ : Sig) (F : Nat) : Prop where
  mk ::
abbrev R66 (r : Bool) : (Nat → V) → Prop := RR Try.prog [.tmp 4] 0 false (Enc.enc (r : Bool))
section
variable {D : Den} {σ : Sig} {F : Nat} {r : Bool}
def s_l1Has_l1 (F : Nat) (l_1 : (List Int)) (n_2 : Int)  : Nat → Int → Option Bool
  | 0, _ => none
  | k + 1, i_4 =>
    bif decide (i_4 < (l_1.length : Int)) then
      (idx l_1 i_4).bind fun e_6 =>
      bif (e_6 == n_2) then
        some true
      else
        (s_l1Has_l1 F l_1 n_2 k) (w64 (i_4 + 1))
    else
      some false
theorem t_f66_l1 (H : H66 D σ F) (l_1 : (List Int)) (n_2 : Int)  : ∀ (k : Nat) (i_4 : Int) (s : Nat → V), Facts [(0, (Enc.enc (l_1 : List Int))), (1, (.int .i64 n_2)), (4, (.bool false)), (5, (.int .i64 i_4))] s → s_l1Has_l1 F l_1 n_2 k i_4 = some r → Run D σ (R66 r) (.run A66_1 [.lp A66_1, .bk 0, .sq A66_6]) s := by
  intro k
  induction k with
  | zero => intro i_4 s _ h; exact nomatch (h : (none : Option _) = some r)
  | succ k ih =>
    intro i_4 s hs h
    rw [s_l1Has_l1] at h
    obtain ⟨h0, h1, h4, h5⟩ := hs
    refine .seq ?_
    refine .seq ?_
    refine run_reg ?_
    refine e_end ?_
    refine g_v1 (t := 5) (u := (.int .i64 i_4)) (.int .i64 i_4) h5 rfl rfl ?_
    refine g_v1 (t := 0) (u := (Enc.enc (l_1 : List Int))) (Enc.enc (l_1 : List Int)) h0 rfl rfl ?_
    refine g_v (.int .i64 (l_1.length : Int)) (ev_len (xs := l_1) rfl) ?_
    refine g_v2 (t1 := 6) (t2 := 8) (u1 := (.int .i64 i_4)) (u2 := (.int .i64 (l_1.length : Int))) (.bool (decide (i_4 < (l_1.length : Int)))) rfl rfl rfl rfl ?_
    refine g_end ?_
    refine e_end ?_
    refine renew [(0, (Enc.enc (l_1 : List Int))), (1, (.int .i64 n_2)), (4, (.bool false)), (5, (.int .i64 i_4)), (9, (.bool (decide (i_4 < (l_1.length : Int)))))] ⟨h0, h1, h4, h5, rfl⟩ ?_
    rintro s ⟨h0, h1, h4, h5, h9⟩
    refine .nsq ?_
    refine run_cond (t := decide (i_4 < (l_1.length : Int))) h9 h (fun h => ?_) (fun h => ?_)
    · refine .skip ?_
      refine .nsq ?_
      refine .seq ?_
      refine .block ?_
      refine .seq ?_
      refine run_reg ?_
      refine e_end ?_
      refine g_v1 (t := 0) (u := (Enc.enc (l_1 : List Int))) (Enc.enc (l_1 : List Int)) h0 rfl rfl ?_
      refine g_v1 (t := 5) (u := (.int .i64 i_4)) (.int .i64 i_4) h5 rfl rfl ?_
      obtain ⟨e_6, E_e_6, h⟩ := bind_some h
      refine g_v (.ref .sh 0 [] (.int .i64 e_6)) (ev_idx (t := .sh) (lo := 0) (xs := l_1) rfl rfl E_e_6 rfl rfl) ?_
      refine g_v1 (t := 14) (u := (.ref .sh 0 [] (.int .i64 e_6))) (.int .i64 e_6) rfl rfl rfl ?_
      refine g_v1 (t := 1) (u := (.int .i64 n_2)) (.int .i64 n_2) h1 rfl rfl ?_
      refine g_v2 (t1 := 15) (t2 := 16) (u1 := (.int .i64 e_6)) (u2 := (.int .i64 n_2)) (.bool (e_6 == n_2)) rfl rfl rfl rfl ?_
      refine g_end ?_
      refine e_end ?_
      refine renew [(0, (Enc.enc (l_1 : List Int))), (1, (.int .i64 n_2)), (4, (.bool false)), (5, (.int .i64 i_4)), (17, (.bool (e_6 == n_2)))] ⟨h0, h1, h4, h5, rfl⟩ ?_
      rintro s ⟨h0, h1, h4, h5, h17⟩
      refine .nsq ?_
      refine run_cond (t := (e_6 == n_2)) h17 h (fun h => ?_) (fun h => ?_)
      · refine .seq ?_
        refine run_reg ?_
        refine e_end ?_
        refine g_v0 (.bool true) rfl rfl ?_
        refine g_end ?_
        refine e_end ?_
        refine renew [(0, (Enc.enc (l_1 : List Int))), (1, (.int .i64 n_2)), (4, (.bool true)), (5, (.int .i64 i_4))] ⟨h0, h1, rfl, h5⟩ ?_
        rintro s ⟨h0, h1, h4, h5⟩
        refine .nsq ?_
        refine .ret ?_
        have hr := Option.some.inj h
        subst hr
        exact rrA (res_tmp h4) rfl
      · refine .skip ?_
        refine .nbk ?_
        refine .nsq ?_
        refine run_reg ?_
        refine e_end ?_
        refine g_v1 (t := 5) (u := (.int .i64 i_4)) (.int .i64 i_4) h5 rfl rfl ?_
        refine g_v1 (t := 10) (u := (.int .i64 i_4)) (.int .i64 (w64 (i_4 + 1))) rfl rfl rfl ?_
        refine g_v1 (t := 11) (u := (.int .i64 (w64 (i_4 + 1)))) (.int .i64 (w64 (i_4 + 1))) rfl rfl rfl ?_
        refine g_end ?_
        refine e_end ?_
        refine renew [(0, (Enc.enc (l_1 : List Int))), (1, (.int .i64 n_2)), (4, (.bool false)), (5, (.int .i64 (w64 (i_4 + 1))))] ⟨h0, h1, h4, rfl⟩ ?_
        rintro s ⟨h0, h1, h4, h5⟩
        refine .nlp ?_
        exact ih (w64 (i_4 + 1)) _ ⟨h0, h1, h4, h5⟩ h
    · refine .exit ?_
      refine .esq ?_
      refine .elp ?_
      refine .ebk ?_
      refine .nsq ?_
      refine .seq ?_
      refine run_reg ?_
      refine e_end ?_
      refine g_v0 (.bool false) rfl rfl ?_
      refine g_end ?_
      refine e_end ?_
      refine renew [(4, (.bool false))] rfl ?_
      rintro s h4
      refine .nsq ?_
      refine .ret ?_
      have hr := Option.some.inj h
      subst hr
      exact rrA (res_tmp h4) rfl
def s_l1Has (F : Nat) (l_1 : (List Int)) (n_2 : Int) : Option Bool :=
  s_l1Has_l1 F l_1 n_2 F 0
theorem t66 (H : H66 D σ F) (l_1 : (List Int)) (n_2 : Int) (s : Nat → V) (hs : Facts [(0, (Enc.enc (l_1 : List Int))), (1, (.int .i64 n_2))] s) (h : s_l1Has F l_1 n_2 = some r) : Run D σ (R66 r) (.run A66 []) s := by
  unfold s_l1Has at h
  obtain ⟨h0, h1⟩ := hs
  refine .seq ?_
  refine run_reg ?_
  refine e_end ?_
  refine g_v0 (.bool false) rfl rfl ?_
  refine g_end ?_
  refine e_end ?_
  refine renew [(0, (Enc.enc (l_1 : List Int))), (1, (.int .i64 n_2)), (4, (.bool false))] ⟨h0, h1, rfl⟩ ?_
  rintro s ⟨h0, h1, h4⟩
  refine .nsq ?_
  refine .seq ?_
  refine .seq ?_
  refine run_reg ?_
  refine e_end ?_
  refine g_v0 (.int .i64 0) rfl rfl ?_
  refine g_end ?_
  refine e_end ?_
  refine renew [(0, (Enc.enc (l_1 : List Int))), (1, (.int .i64 n_2)), (4, (.bool false)), (5, (.int .i64 0))] ⟨h0, h1, h4, rfl⟩ ?_
  rintro s ⟨h0, h1, h4, h5⟩
  refine .nsq ?_
  refine .block ?_
  refine .loop ?_
  exact t_f66_l1 H l_1 n_2 F 0 _ ⟨h0, h1, h4, h5⟩ h
end
def e66 (F : Nat) : Ent := ⟨66, dn2 (s_l1Has F) (fun (r : Bool) => (Enc.enc (r : Bool))), 0, false⟩
theorem o66 {D : Den} {σ : Sig} {F : Nat} (hF : Fits2 Try.prog D σ) (H : H66 D σ F) : (e66 F).Ok Try.prog := by
  refine ⟨fun args r h => ?_, ⟨Try.f66, Try.func66, rfl, rfl⟩⟩
  obtain ⟨x0, x1, y, rfl, hy, rfl⟩ := dn2_open h
  exact contract_run hF (by kernel_rfl) Try.func66 rfl c66 (show 2 ≤ Try.f66.ntmps by decide) (t66 H x0 x1 _ ⟨rfl, rfl⟩ hy)
/- loop.example/g01109/spec.l7Forest -/
def A36_2 : AC := (AC.cond (O.t 47) AC.skip (AC.exit 4))
def A36_5 : AC := (AC.cond (O.t 75) (AC.seq (AC.reg [] [(I.mk (some 4) none false (X.v (A.mov (O.k (V.bool false)))))] []) AC.ret) AC.skip)
def A36_4 : AC := (AC.seq (AC.reg [] [(I.mk (some 62) none false (X.v (A.mov (O.t 1)))), (I.mk (some 63) none false (X.v (A.mov (O.t 8)))), (I.mk (some 64) none false (X.call (O.k (V.fn 65 [] [])) [(O.t 62), (O.t 63)])), (I.mk (some 65) none false (X.v (A.mov (O.t 9)))), (I.mk (some 66) none false (X.call (O.k (V.fn 66 [] [])) [(O.t 64), (O.t 65)])), (I.mk (some 67) none false (X.v (A.un UnOp.not (O.t 66)))), (I.mk (some 68) none false (X.v (A.mov (O.t 67)))), (I.mk (some 69) (some (68, true)) false (X.v (A.mov (O.t 1)))), (I.mk (some 70) (some (68, true)) false (X.v (A.mov (O.t 9)))), (I.mk (some 71) (some (68, true)) false (X.call (O.k (V.fn 65 [] [])) [(O.t 69), (O.t 70)])), (I.mk (some 72) (some (68, true)) false (X.v (A.mov (O.t 8)))), (I.mk (some 73) (some (68, true)) false (X.call (O.k (V.fn 66 [] [])) [(O.t 71), (O.t 72)])), (I.mk (some 74) (some (68, true)) false (X.v (A.un UnOp.not (O.t 73)))), (I.mk (some 75) none false (X.v (A.pick (O.t 68) (O.t 74) (O.k (V.bool false)))))] []) A36_5)
def A36_6 : AC := (AC.reg [] [(I.mk (some 48) none false (X.v (A.mov (O.t 7)))), (I.mk (some 49) none false (X.v (A.bin BinOp.add (O.t 48) (O.k (V.int IntKind.i64 (Int.ofNat 1)))))), (I.mk (some 7) none false (X.v (A.mov (O.t 49))))] [])
def A36_3 : AC := (AC.seq (AC.block 5 (AC.seq (AC.reg [] [(I.mk (some 50) none false (X.v (A.fld (O.t 2) 1 1))), (I.mk (some 51) none false (X.v (A.load Sh.p (O.t 50)))), (I.mk (some 52) none false (X.v (A.mov (O.t 7)))), (I.mk (some 53) none false (X.v (A.idx (O.t 51) (O.t 52) 2))), (I.mk (some 54) none false (X.v (A.idxA (O.t 53) (O.k (V.int IntKind.i64 (Int.ofNat 0))) 2 1))), (I.mk (some 55) none false (X.v (A.load Sh.s (O.t 54)))), (I.mk (some 56) none false (X.v (A.fld (O.t 2) 1 1))), (I.mk (some 57) none false (X.v (A.load Sh.p (O.t 56)))), (I.mk (some 58) none false (X.v (A.mov (O.t 7)))), (I.mk (some 59) none false (X.v (A.idx (O.t 57) (O.t 58) 2))), (I.mk (some 60) none false (X.v (A.idxA (O.t 59) (O.k (V.int IntKind.i64 (Int.ofNat 1))) 2 1))), (I.mk (some 61) none false (X.v (A.load Sh.s (O.t 60)))), (I.mk (some 8) none false (X.v (A.mov (O.t 55)))), (I.mk (some 9) none false (X.v (A.mov (O.t 61))))] []) A36_4)) A36_6)
def A36_1 : AC := (AC.seq (AC.seq (AC.reg [] [(I.mk (some 43) none false (X.v (A.mov (O.t 7)))), (I.mk (some 44) none false (X.v (A.fld (O.t 2) 1 1))), (I.mk (some 45) none false (X.v (A.load Sh.p (O.t 44)))), (I.mk (some 46) none false (X.v (A.len (O.t 45)))), (I.mk (some 47) none false (X.v (A.bin BinOp.lss (O.t 43) (O.t 46))))] []) A36_2) A36_3)
def A36_7 : AC := (AC.seq (AC.reg [] [(I.mk (some 4) none false (X.v (A.mov (O.k (V.bool true)))))] []) AC.ret)
def A36_9 : AC := (AC.cond (O.t 33) AC.skip (AC.exit 2))
def A36_11 : AC := (AC.cond (O.t 42) (AC.seq (AC.reg [] [(I.mk (some 4) none false (X.v (A.mov (O.k (V.bool false)))))] []) AC.ret) AC.skip)
def A36_12 : AC := (AC.reg [] [(I.mk (some 34) none false (X.v (A.mov (O.t 6)))), (I.mk (some 35) none false (X.v (A.bin BinOp.add (O.t 34) (O.k (V.int IntKind.i64 (Int.ofNat 1)))))), (I.mk (some 6) none false (X.v (A.mov (O.t 35))))] [])
def A36_10 : AC := (AC.seq (AC.block 3 (AC.seq (AC.reg [] [(I.mk (some 36) none false (X.v (A.mov (O.t 1)))), (I.mk (some 37) none false (X.v (A.mov (O.t 6)))), (I.mk (some 38) none false (X.call (O.k (V.fn 65 [] [])) [(O.t 36), (O.t 37)])), (I.mk (some 39) none false (X.v (A.len (O.t 38)))), (I.mk (some 40) none false (X.v (A.fld (O.t 2) 0 0))), (I.mk (some 41) none false (X.v (A.load Sh.s (O.t 40)))), (I.mk (some 42) none false (X.v (A.bin BinOp.geq (O.t 39) (O.t 41))))] []) A36_11)) A36_12)
def A36_8 : AC := (AC.seq (AC.seq (AC.reg [] [(I.mk (some 30) none false (X.v (A.mov (O.t 6)))), (I.mk (some 31) none false (X.v (A.fld (O.t 2) 0 0))), (I.mk (some 32) none false (X.v (A.load Sh.s (O.t 31)))), (I.mk (some 33) none false (X.v (A.bin BinOp.lss (O.t 30) (O.t 32))))] []) A36_9) A36_10)
def A36_14 : AC := (AC.block 4 (AC.loop A36_1))
def A36_13 : AC := (AC.seq (AC.seq (AC.reg [] [(I.mk (some 7) none false (X.v (A.mov (O.k (V.int IntKind.i64 (Int.ofNat 0))))))] []) A36_14) A36_7)
def A36_16 : AC := (AC.cond (O.t 18) AC.skip (AC.exit 0))
def A36_18 : AC := (AC.cond (O.t 29) (AC.seq (AC.reg [] [(I.mk (some 4) none false (X.v (A.mov (O.k (V.bool false)))))] []) AC.ret) AC.skip)
def A36_19 : AC := (AC.reg [] [(I.mk (some 19) none false (X.v (A.mov (O.t 5)))), (I.mk (some 20) none false (X.v (A.bin BinOp.add (O.t 19) (O.k (V.int IntKind.i64 (Int.ofNat 1)))))), (I.mk (some 5) none false (X.v (A.mov (O.t 20))))] [])
def A36_17 : AC := (AC.seq (AC.block 1 (AC.seq (AC.reg [] [(I.mk (some 21) none false (X.v (A.mov (O.t 1)))), (I.mk (some 22) none false (X.v (A.mov (O.t 5)))), (I.mk (some 23) none false (X.v (A.idx (O.t 21) (O.t 22) 1))), (I.mk (some 24) none false (X.v (A.load Sh.s (O.t 23)))), (I.mk (some 25) none false (X.v (A.fld (O.t 2) 0 0))), (I.mk (some 26) none false (X.v (A.load Sh.s (O.t 25)))), (I.mk (some 27) none false (X.v (A.bin BinOp.sub (O.t 26) (O.k (V.int IntKind.i64 (Int.ofNat 1)))))), (I.mk (some 28) none false (X.call (O.k (V.fn 56 [] [])) [(O.t 24), (O.k (V.int IntKind.i64 (Int.negSucc 0))), (O.t 27)])), (I.mk (some 29) none false (X.v (A.un UnOp.not (O.t 28))))] []) A36_18)) A36_19)
def A36_15 : AC := (AC.seq (AC.seq (AC.reg [] [(I.mk (some 15) none false (X.v (A.mov (O.t 5)))), (I.mk (some 16) none false (X.v (A.fld (O.t 2) 0 0))), (I.mk (some 17) none false (X.v (A.load Sh.s (O.t 16)))), (I.mk (some 18) none false (X.v (A.bin BinOp.lss (O.t 15) (O.t 17))))] []) A36_16) A36_17)
def A36_21 : AC := (AC.block 2 (AC.loop A36_8))
def A36_20 : AC := (AC.seq (AC.seq (AC.reg [] [(I.mk (some 6) none false (X.v (A.mov (O.k (V.int IntKind.i64 (Int.ofNat 0))))))] []) A36_21) A36_13)
def A36_23 : AC := (AC.cond (O.t 14) (AC.seq (AC.reg [] [(I.mk (some 4) none false (X.v (A.mov (O.k (V.bool false)))))] []) AC.ret) AC.skip)
def A36_25 : AC := (AC.block 0 (AC.loop A36_15))
def A36_24 : AC := (AC.seq (AC.seq (AC.reg [] [(I.mk (some 5) none false (X.v (A.mov (O.k (V.int IntKind.i64 (Int.ofNat 0))))))] []) A36_25) A36_20)
def A36_22 : AC := (AC.seq (AC.seq (AC.reg [] [(I.mk (some 10) none false (X.v (A.mov (O.t 1)))), (I.mk (some 11) none false (X.v (A.len (O.t 10)))), (I.mk (some 12) none false (X.v (A.fld (O.t 2) 0 0))), (I.mk (some 13) none false (X.v (A.load Sh.s (O.t 12)))), (I.mk (some 14) none false (X.v (A.bin BinOp.neq (O.t 11) (O.t 13))))] []) A36_23) A36_24)
def A36 : AC := (AC.seq (AC.reg [.clr [2]] [(I.mk (some 2) none false (X.box (O.t 0))), (I.mk (some 4) none false (X.v (A.mov (O.k (V.bool false)))))] []) A36_22)
def an36 : List An := [{ id := 0, pre := [.clr [2]], ep := [] }]
theorem c36 : cC Try.prog Try.f36.ntmps an36 (Try.f36.body.getD .skip) = some A36 := by rfl
structure H36 (D : Den) (σ : Sig) (F : Nat) : Prop where
  c56 : ∀ x0 x1 x2 r, s_l1In F x0 x1 x2 = some r → D 56 [Enc.enc x0, Enc.enc x1, Enc.enc x2] = some (Enc.enc (r : Bool))
  g56 : σ 56 = some (0, false)
  c65 : ∀ x0 x1 r, s_l7Above F x0 x1 = some r → D 65 [Enc.enc x0, Enc.enc x1] = some (Enc.enc (r : (List Int)))
  g65 : σ 65 = some (0, true)
  c66 : ∀ x0 x1 r, s_l1Has F x0 x1 = some r → D 66 [Enc.enc x0, Enc.enc x1] = some (Enc.enc (r : Bool))
  g66 : σ 66 = some (0, false)
abbrev R36 (r : Bool) : (Nat → V) → Prop := RR Try.prog [.tmp 4] 0 false (Enc.enc (r : Bool))
section
variable {D : Den} {σ : Sig} {F : Nat} {r : Bool}
def s_l7Forest_j3 (F : Nat) (parents_2 : (List Int)) (g_1 : (Int × (List (Int × Int)))) (i_25 : Int) (c3 : Int → Option Bool) (t75_43 : Bool) : Option Bool :=
  bif t75_43 then
    some false
  else
    c3 (w64 (i_25 + 1))
theorem t_f36_j3 (H : H36 D σ F) (parents_2 : (List Int)) (g_1 : (Int × (List (Int × Int)))) (i_25 : Int) (c3 : Int → Option Bool) (Hc3 : ∀ (i_25 : Int) (s : Nat → V), Facts [(1, (Enc.enc (parents_2 : List Int))), (2, (.ref (.bx 2) 0 [] (.agg [(.int .i64 g_1.1), (Enc.enc (g_1.2 : List (Int × Int)))]))), (4, (.bool false)), (7, (.int .i64 i_25))] s → c3 i_25 = some r → Run D σ (R36 r) (.run A36_1 [.lp A36_1, .bk 4, .sq A36_7]) s) (t75_43 : Bool) (s : Nat → V) (hs : Facts [(1, (Enc.enc (parents_2 : List Int))), (2, (.ref (.bx 2) 0 [] (.agg [(.int .i64 g_1.1), (Enc.enc (g_1.2 : List (Int × Int)))]))), (4, (.bool false)), (7, (.int .i64 i_25)), (75, (.bool t75_43))] s) (h : s_l7Forest_j3 F parents_2 g_1 i_25 c3 t75_43 = some r) : Run D σ (R36 r) (.nrm [.sq A36_5, .bk 5, .sq A36_6, .lp A36_1, .bk 4, .sq A36_7]) s := by
  unfold s_l7Forest_j3 at h
  obtain ⟨h1, h2, h4, h7, h75⟩ := hs
  refine .nsq ?_
  refine run_cond (t := t75_43) h75 h (fun h => ?_) (fun h => ?_)
  · refine .seq ?_
    refine run_reg ?_
    refine e_end ?_
    refine g_v0 (.bool false) rfl rfl ?_
    refine g_end ?_
    refine e_end ?_
    refine renew [(1, (Enc.enc (parents_2 : List Int))), (2, (.ref (.bx 2) 0 [] (.agg [(.int .i64 g_1.1), (Enc.enc (g_1.2 : List (Int × Int)))]))), (4, (.bool false)), (7, (.int .i64 i_25))] ⟨h1, h2, rfl, h7⟩ ?_
    rintro s ⟨h1, h2, h4, h7⟩
    refine .nsq ?_
    refine .ret ?_
    have hr := Option.some.inj h
    subst hr
    exact rrA (res_tmp h4) rfl
  · refine .skip ?_
    refine .nbk ?_
    refine .nsq ?_
    refine run_reg ?_
    refine e_end ?_
    refine g_v1 (t := 7) (u := (.int .i64 i_25)) (.int .i64 i_25) h7 rfl rfl ?_
    refine g_v1 (t := 48) (u := (.int .i64 i_25)) (.int .i64 (w64 (i_25 + 1))) rfl rfl rfl ?_
    refine g_v1 (t := 49) (u := (.int .i64 (w64 (i_25 + 1)))) (.int .i64 (w64 (i_25 + 1))) rfl rfl rfl ?_
    refine g_end ?_
    refine e_end ?_
    refine renew [(1, (Enc.enc (parents_2 : List Int))), (2, (.ref (.bx 2) 0 [] (.agg [(.int .i64 g_1.1), (Enc.enc (g_1.2 : List (Int × Int)))]))), (4, (.bool false)), (7, (.int .i64 (w64 (i_25 + 1))))] ⟨h1, h2, h4, rfl⟩ ?_
    rintro s ⟨h1, h2, h4, h7⟩
    refine .nlp ?_
    exact Hc3 (w64 (i_25 + 1)) _ ⟨h1, h2, h4, h7⟩ h
def s_l7Forest_l3 (F : Nat) (parents_2 : (List Int)) (g_1 : (Int × (List (Int × Int))))  : Nat → Int → Option Bool
  | 0, _ => none
  | k + 1, i_25 =>
    bif decide (i_25 < (g_1.2.length : Int)) then
      (idx g_1.2 i_25).bind fun e_37 =>
      (idx g_1.2 i_25).bind fun e_38 =>
      (s_l7Above F parents_2 e_37.1).bind fun r_44 =>
      (s_l1Has F r_44 e_38.2).bind fun r_45 =>
      bif (!r_45) then
        (s_l7Above F parents_2 e_38.2).bind fun r_46 =>
        (s_l1Has F r_46 e_37.1).bind fun r_47 =>
        s_l7Forest_j3 F parents_2 g_1 i_25 (s_l7Forest_l3 F parents_2 g_1 k) (!r_47)
      else
        s_l7Forest_j3 F parents_2 g_1 i_25 (s_l7Forest_l3 F parents_2 g_1 k) false
    else
      some true
theorem t_f36_l3 (H : H36 D σ F) (parents_2 : (List Int)) (g_1 : (Int × (List (Int × Int))))  : ∀ (k : Nat) (i_25 : Int) (s : Nat → V), Facts [(1, (Enc.enc (parents_2 : List Int))), (2, (.ref (.bx 2) 0 [] (.agg [(.int .i64 g_1.1), (Enc.enc (g_1.2 : List (Int × Int)))]))), (4, (.bool false)), (7, (.int .i64 i_25))] s → s_l7Forest_l3 F parents_2 g_1 k i_25 = some r → Run D σ (R36 r) (.run A36_1 [.lp A36_1, .bk 4, .sq A36_7]) s := by
  intro k
  induction k with
  | zero => intro i_25 s _ h; exact nomatch (h : (none : Option _) = some r)
  | succ k ih =>
    intro i_25 s hs h
    rw [s_l7Forest_l3] at h
    obtain ⟨h1, h2, h4, h7⟩ := hs
    refine .seq ?_
    refine .seq ?_
    refine run_reg ?_
    refine e_end ?_
    refine g_v1 (t := 7) (u := (.int .i64 i_25)) (.int .i64 i_25) h7 rfl rfl ?_
    refine g_v1 (t := 2) (u := (.ref (.bx 2) 0 [] (.agg [(.int .i64 g_1.1), (Enc.enc (g_1.2 : List (Int × Int)))]))) (.ref (.bx 2) 0 [1] (Enc.enc (g_1.2 : List (Int × Int)))) h2 rfl rfl ?_
    refine g_v1 (t := 44) (u := (.ref (.bx 2) 0 [1] (Enc.enc (g_1.2 : List (Int × Int))))) (Enc.enc (g_1.2 : List (Int × Int))) rfl rfl rfl ?_
    refine g_v (.int .i64 (g_1.2.length : Int)) (ev_len (xs := g_1.2) rfl) ?_
    refine g_v2 (t1 := 43) (t2 := 46) (u1 := (.int .i64 i_25)) (u2 := (.int .i64 (g_1.2.length : Int))) (.bool (decide (i_25 < (g_1.2.length : Int)))) rfl rfl rfl rfl ?_
    refine g_end ?_
    refine e_end ?_
    refine renew [(1, (Enc.enc (parents_2 : List Int))), (2, (.ref (.bx 2) 0 [] (.agg [(.int .i64 g_1.1), (Enc.enc (g_1.2 : List (Int × Int)))]))), (4, (.bool false)), (7, (.int .i64 i_25)), (47, (.bool (decide (i_25 < (g_1.2.length : Int)))))] ⟨h1, h2, h4, h7, rfl⟩ ?_
    rintro s ⟨h1, h2, h4, h7, h47⟩
    refine .nsq ?_
    refine run_cond (t := decide (i_25 < (g_1.2.length : Int))) h47 h (fun h => ?_) (fun h => ?_)
    · refine .skip ?_
      refine .nsq ?_
      refine .seq ?_
      refine .block ?_
      refine .seq ?_
      refine run_reg ?_
      refine e_end ?_
      refine g_v1 (t := 2) (u := (.ref (.bx 2) 0 [] (.agg [(.int .i64 g_1.1), (Enc.enc (g_1.2 : List (Int × Int)))]))) (.ref (.bx 2) 0 [1] (Enc.enc (g_1.2 : List (Int × Int)))) h2 rfl rfl ?_
      refine g_v1 (t := 50) (u := (.ref (.bx 2) 0 [1] (Enc.enc (g_1.2 : List (Int × Int))))) (Enc.enc (g_1.2 : List (Int × Int))) rfl rfl rfl ?_
      refine g_v1 (t := 7) (u := (.int .i64 i_25)) (.int .i64 i_25) h7 rfl rfl ?_
      obtain ⟨e_37, E_e_37, h⟩ := bind_some h
      refine g_v (.ref .sh 0 [] (.agg [(.int .i64 e_37.1), (.int .i64 e_37.2)])) (ev_idx (t := .sh) (lo := 0) (xs := g_1.2) rfl rfl E_e_37 rfl rfl) ?_
      refine g_v1 (t := 53) (u := (.ref .sh 0 [] (.agg [(.int .i64 e_37.1), (.int .i64 e_37.2)]))) (.ref .sh 0 [0] (.int .i64 e_37.1)) rfl rfl rfl ?_
      refine g_v1 (t := 54) (u := (.ref .sh 0 [0] (.int .i64 e_37.1))) (.int .i64 e_37.1) rfl rfl rfl ?_
      refine g_v1 (t := 2) (u := (.ref (.bx 2) 0 [] (.agg [(.int .i64 g_1.1), (Enc.enc (g_1.2 : List (Int × Int)))]))) (.ref (.bx 2) 0 [1] (Enc.enc (g_1.2 : List (Int × Int)))) h2 rfl rfl ?_
      refine g_v1 (t := 56) (u := (.ref (.bx 2) 0 [1] (Enc.enc (g_1.2 : List (Int × Int))))) (Enc.enc (g_1.2 : List (Int × Int))) rfl rfl rfl ?_
      refine g_v1 (t := 7) (u := (.int .i64 i_25)) (.int .i64 i_25) h7 rfl rfl ?_
      obtain ⟨e_38, E_e_38, h⟩ := bind_some h
      refine g_v (.ref .sh 0 [] (.agg [(.int .i64 e_38.1), (.int .i64 e_38.2)])) (ev_idx (t := .sh) (lo := 0) (xs := g_1.2) rfl rfl E_e_38 rfl rfl) ?_
      refine g_v1 (t := 59) (u := (.ref .sh 0 [] (.agg [(.int .i64 e_38.1), (.int .i64 e_38.2)]))) (.ref .sh 0 [1] (.int .i64 e_38.2)) rfl rfl rfl ?_
      refine g_v1 (t := 60) (u := (.ref .sh 0 [1] (.int .i64 e_38.2))) (.int .i64 e_38.2) rfl rfl rfl ?_
      refine g_v1 (t := 55) (u := (.int .i64 e_37.1)) (.int .i64 e_37.1) rfl rfl rfl ?_
      refine g_v1 (t := 61) (u := (.int .i64 e_38.2)) (.int .i64 e_38.2) rfl rfl rfl ?_
      refine g_end ?_
      refine e_end ?_
      refine renew [(1, (Enc.enc (parents_2 : List Int))), (2, (.ref (.bx 2) 0 [] (.agg [(.int .i64 g_1.1), (Enc.enc (g_1.2 : List (Int × Int)))]))), (4, (.bool false)), (7, (.int .i64 i_25)), (8, (.int .i64 e_37.1)), (9, (.int .i64 e_38.2))] ⟨h1, h2, h4, h7, rfl, rfl⟩ ?_
      rintro s ⟨h1, h2, h4, h7, h8, h9⟩
      refine .nsq ?_
      refine .seq ?_
      refine run_reg ?_
      refine e_end ?_
      refine g_v1 (t := 1) (u := (Enc.enc (parents_2 : List Int))) (Enc.enc (parents_2 : List Int)) h1 rfl rfl ?_
      refine g_v1 (t := 8) (u := (.int .i64 e_37.1)) (.int .i64 e_37.1) h8 rfl rfl ?_
      obtain ⟨r_44, E_r_44, h⟩ := bind_some h
      refine g_call (m := 0) (al := true) (r := (Enc.enc (r_44 : (List Int)))) [Enc.enc (parents_2 : (List Int)), Enc.enc (e_37.1 : Int)] (ta_cons (v := (Enc.enc (parents_2 : List Int))) rfl rfl (Enc.erase_enc (parents_2 : (List Int))) (ta_cons (v := (.int .i64 e_37.1)) rfl rfl rfl ta_nil)) (H.c65 _ _ _ E_r_44) H.g65 (hal_of (ht_cons (v := (Enc.enc (parents_2 : List Int))) rfl rfl rfl (ht_cons (v := (.int .i64 e_37.1)) rfl rfl rfl ht_nil))) rfl rfl rfl ?_
      refine g_v1 (t := 9) (u := (.int .i64 e_38.2)) (.int .i64 e_38.2) h9 rfl rfl ?_
      obtain ⟨r_45, E_r_45, h⟩ := bind_some h
      refine g_call (m := 0) (al := false) (r := (Enc.enc (r_45 : Bool))) [Enc.enc (r_44 : (List Int)), Enc.enc (e_38.2 : Int)] (ta_cons (v := (Enc.enc (r_44 : List Int))) rfl rfl (Enc.erase_enc (r_44 : (List Int))) (ta_cons (v := (.int .i64 e_38.2)) rfl rfl rfl ta_nil)) (H.c66 _ _ _ E_r_45) H.g66 rfl rfl rfl rfl ?_
      refine g_v1 (t := 66) (u := (.bool r_45)) (.bool (!r_45)) rfl rfl rfl ?_
      refine g_v1 (t := 67) (u := (.bool (!r_45))) (.bool (!r_45)) rfl rfl rfl ?_
      refine split_on (c := (!r_45)) h (fun hg7 h => ?_) (fun hg7 h => ?_)
      · refine g_yes (Eq.trans (b := .bool (!r_45)) rfl (congrArg V.bool hg7)) (g_v1 (t := 1) (u := (Enc.enc (parents_2 : List Int))) (Enc.enc (parents_2 : List Int)) h1 rfl rfl ?_)
        refine g_yes (Eq.trans (b := .bool (!r_45)) rfl (congrArg V.bool hg7)) (g_v1 (t := 9) (u := (.int .i64 e_38.2)) (.int .i64 e_38.2) h9 rfl rfl ?_)
        obtain ⟨r_46, E_r_46, h⟩ := bind_some h
        refine g_yes (Eq.trans (b := .bool (!r_45)) rfl (congrArg V.bool hg7)) (g_call (m := 0) (al := true) (r := (Enc.enc (r_46 : (List Int)))) [Enc.enc (parents_2 : (List Int)), Enc.enc (e_38.2 : Int)] (ta_cons (v := (Enc.enc (parents_2 : List Int))) rfl rfl (Enc.erase_enc (parents_2 : (List Int))) (ta_cons (v := (.int .i64 e_38.2)) rfl rfl rfl ta_nil)) (H.c65 _ _ _ E_r_46) H.g65 (hal_of (ht_cons (v := (Enc.enc (parents_2 : List Int))) rfl rfl rfl (ht_cons (v := (.int .i64 e_38.2)) rfl rfl rfl ht_nil))) rfl rfl rfl ?_)
        refine g_yes (Eq.trans (b := .bool (!r_45)) rfl (congrArg V.bool hg7)) (g_v1 (t := 8) (u := (.int .i64 e_37.1)) (.int .i64 e_37.1) h8 rfl rfl ?_)
        obtain ⟨r_47, E_r_47, h⟩ := bind_some h
        refine g_yes (Eq.trans (b := .bool (!r_45)) rfl (congrArg V.bool hg7)) (g_call (m := 0) (al := false) (r := (Enc.enc (r_47 : Bool))) [Enc.enc (r_46 : (List Int)), Enc.enc (e_37.1 : Int)] (ta_cons (v := (Enc.enc (r_46 : List Int))) rfl rfl (Enc.erase_enc (r_46 : (List Int))) (ta_cons (v := (.int .i64 e_37.1)) rfl rfl rfl ta_nil)) (H.c66 _ _ _ E_r_47) H.g66 rfl rfl rfl rfl ?_)
        refine g_yes (Eq.trans (b := .bool (!r_45)) rfl (congrArg V.bool hg7)) (g_v1 (t := 73) (u := (.bool r_47)) (.bool (!r_47)) rfl rfl rfl ?_)
        refine g_v2 (t1 := 68) (t2 := 74) (u1 := (.bool true)) (u2 := (.bool (!r_47))) (.bool (!r_47)) (Eq.trans (b := .bool (!r_45)) rfl (congrArg V.bool hg7)) rfl rfl rfl ?_
        refine g_end ?_
        refine e_end ?_
        refine renew [(1, (Enc.enc (parents_2 : List Int))), (2, (.ref (.bx 2) 0 [] (.agg [(.int .i64 g_1.1), (Enc.enc (g_1.2 : List (Int × Int)))]))), (4, (.bool false)), (7, (.int .i64 i_25)), (75, (.bool (!r_47)))] ⟨h1, h2, h4, h7, rfl⟩ ?_
        rintro s ⟨h1, h2, h4, h7, h75⟩
        exact t_f36_j3 H parents_2 g_1 i_25 (s_l7Forest_l3 F parents_2 g_1 k) ih (!r_47) _ ⟨h1, h2, h4, h7, h75⟩ h
      · refine g_no (Eq.trans (b := .bool (!r_45)) rfl (congrArg V.bool hg7)) ?_
        refine g_no (Eq.trans (b := .bool (!r_45)) rfl (congrArg V.bool hg7)) ?_
        refine g_no (Eq.trans (b := .bool (!r_45)) rfl (congrArg V.bool hg7)) ?_
        refine g_no (Eq.trans (b := .bool (!r_45)) rfl (congrArg V.bool hg7)) ?_
        refine g_no (Eq.trans (b := .bool (!r_45)) rfl (congrArg V.bool hg7)) ?_
        refine g_no (Eq.trans (b := .bool (!r_45)) rfl (congrArg V.bool hg7)) ?_
        refine g_v2 (t1 := 68) (t2 := 74) (u1 := (.bool false)) (u2 := (.tup [])) (.bool false) (Eq.trans (b := .bool (!r_45)) rfl (congrArg V.bool hg7)) rfl rfl rfl ?_
        refine g_end ?_
        refine e_end ?_
        refine renew [(1, (Enc.enc (parents_2 : List Int))), (2, (.ref (.bx 2) 0 [] (.agg [(.int .i64 g_1.1), (Enc.enc (g_1.2 : List (Int × Int)))]))), (4, (.bool false)), (7, (.int .i64 i_25)), (75, (.bool false))] ⟨h1, h2, h4, h7, rfl⟩ ?_
        rintro s ⟨h1, h2, h4, h7, h75⟩
        exact t_f36_j3 H parents_2 g_1 i_25 (s_l7Forest_l3 F parents_2 g_1 k) ih false _ ⟨h1, h2, h4, h7, h75⟩ h
    · refine .exit ?_
      refine .esq ?_
      refine .elp ?_
      refine .ebk ?_
      refine .nsq ?_
      refine .seq ?_
      refine run_reg ?_
      refine e_end ?_
      refine g_v0 (.bool true) rfl rfl ?_
      refine g_end ?_
      refine e_end ?_
      refine renew [(4, (.bool true))] rfl ?_
      rintro s h4
      refine .nsq ?_
      refine .ret ?_
      have hr := Option.some.inj h
      subst hr
      exact rrA (res_tmp h4) rfl
def s_l7Forest_l2 (F : Nat) (parents_2 : (List Int)) (g_1 : (Int × (List (Int × Int))))  : Nat → Int → Option Bool
  | 0, _ => none
  | k + 1, x_11 =>
    bif decide (x_11 < g_1.1) then
      (s_l7Above F parents_2 x_11).bind fun r_13 =>
      bif decide ((r_13.length : Int) ≥ g_1.1) then
        some false
      else
        (s_l7Forest_l2 F parents_2 g_1 k) (w64 (x_11 + 1))
    else
      s_l7Forest_l3 F parents_2 g_1 F 0
theorem t_f36_l2 (H : H36 D σ F) (parents_2 : (List Int)) (g_1 : (Int × (List (Int × Int))))  : ∀ (k : Nat) (x_11 : Int) (s : Nat → V), Facts [(1, (Enc.enc (parents_2 : List Int))), (2, (.ref (.bx 2) 0 [] (.agg [(.int .i64 g_1.1), (Enc.enc (g_1.2 : List (Int × Int)))]))), (4, (.bool false)), (6, (.int .i64 x_11))] s → s_l7Forest_l2 F parents_2 g_1 k x_11 = some r → Run D σ (R36 r) (.run A36_8 [.lp A36_8, .bk 2, .sq A36_13]) s := by
  intro k
  induction k with
  | zero => intro x_11 s _ h; exact nomatch (h : (none : Option _) = some r)
  | succ k ih =>
    intro x_11 s hs h
    rw [s_l7Forest_l2] at h
    obtain ⟨h1, h2, h4, h6⟩ := hs
    refine .seq ?_
    refine .seq ?_
    refine run_reg ?_
    refine e_end ?_
    refine g_v1 (t := 6) (u := (.int .i64 x_11)) (.int .i64 x_11) h6 rfl rfl ?_
    refine g_v1 (t := 2) (u := (.ref (.bx 2) 0 [] (.agg [(.int .i64 g_1.1), (Enc.enc (g_1.2 : List (Int × Int)))]))) (.ref (.bx 2) 0 [0] (.int .i64 g_1.1)) h2 rfl rfl ?_
    refine g_v1 (t := 31) (u := (.ref (.bx 2) 0 [0] (.int .i64 g_1.1))) (.int .i64 g_1.1) rfl rfl rfl ?_
    refine g_v2 (t1 := 30) (t2 := 32) (u1 := (.int .i64 x_11)) (u2 := (.int .i64 g_1.1)) (.bool (decide (x_11 < g_1.1))) rfl rfl rfl rfl ?_
    refine g_end ?_
    refine e_end ?_
    refine renew [(1, (Enc.enc (parents_2 : List Int))), (2, (.ref (.bx 2) 0 [] (.agg [(.int .i64 g_1.1), (Enc.enc (g_1.2 : List (Int × Int)))]))), (4, (.bool false)), (6, (.int .i64 x_11)), (33, (.bool (decide (x_11 < g_1.1))))] ⟨h1, h2, h4, h6, rfl⟩ ?_
    rintro s ⟨h1, h2, h4, h6, h33⟩
    refine .nsq ?_
    refine run_cond (t := decide (x_11 < g_1.1)) h33 h (fun h => ?_) (fun h => ?_)
    · refine .skip ?_
      refine .nsq ?_
      refine .seq ?_
      refine .block ?_
      refine .seq ?_
      refine run_reg ?_
      refine e_end ?_
      refine g_v1 (t := 1) (u := (Enc.enc (parents_2 : List Int))) (Enc.enc (parents_2 : List Int)) h1 rfl rfl ?_
      refine g_v1 (t := 6) (u := (.int .i64 x_11)) (.int .i64 x_11) h6 rfl rfl ?_
      obtain ⟨r_13, E_r_13, h⟩ := bind_some h
      refine g_call (m := 0) (al := true) (r := (Enc.enc (r_13 : (List Int)))) [Enc.enc (parents_2 : (List Int)), Enc.enc (x_11 : Int)] (ta_cons (v := (Enc.enc (parents_2 : List Int))) rfl rfl (Enc.erase_enc (parents_2 : (List Int))) (ta_cons (v := (.int .i64 x_11)) rfl rfl rfl ta_nil)) (H.c65 _ _ _ E_r_13) H.g65 (hal_of (ht_cons (v := (Enc.enc (parents_2 : List Int))) rfl rfl rfl (ht_cons (v := (.int .i64 x_11)) rfl rfl rfl ht_nil))) rfl rfl rfl ?_
      refine g_v (.int .i64 (r_13.length : Int)) (ev_len (xs := r_13) rfl) ?_
      refine g_v1 (t := 2) (u := (.ref (.bx 2) 0 [] (.agg [(.int .i64 g_1.1), (Enc.enc (g_1.2 : List (Int × Int)))]))) (.ref (.bx 2) 0 [0] (.int .i64 g_1.1)) h2 rfl rfl ?_
      refine g_v1 (t := 40) (u := (.ref (.bx 2) 0 [0] (.int .i64 g_1.1))) (.int .i64 g_1.1) rfl rfl rfl ?_
      refine g_v2 (t1 := 39) (t2 := 41) (u1 := (.int .i64 (r_13.length : Int))) (u2 := (.int .i64 g_1.1)) (.bool (decide ((r_13.length : Int) ≥ g_1.1))) rfl rfl rfl rfl ?_
      refine g_end ?_
      refine e_end ?_
      refine renew [(1, (Enc.enc (parents_2 : List Int))), (2, (.ref (.bx 2) 0 [] (.agg [(.int .i64 g_1.1), (Enc.enc (g_1.2 : List (Int × Int)))]))), (4, (.bool false)), (6, (.int .i64 x_11)), (42, (.bool (decide ((r_13.length : Int) ≥ g_1.1))))] ⟨h1, h2, h4, h6, rfl⟩ ?_
      rintro s ⟨h1, h2, h4, h6, h42⟩
      refine .nsq ?_
      refine run_cond (t := decide ((r_13.length : Int) ≥ g_1.1)) h42 h (fun h => ?_) (fun h => ?_)
      · refine .seq ?_
        refine run_reg ?_
        refine e_end ?_
        refine g_v0 (.bool false) rfl rfl ?_
        refine g_end ?_
        refine e_end ?_
        refine renew [(1, (Enc.enc (parents_2 : List Int))), (2, (.ref (.bx 2) 0 [] (.agg [(.int .i64 g_1.1), (Enc.enc (g_1.2 : List (Int × Int)))]))), (4, (.bool false)), (6, (.int .i64 x_11))] ⟨h1, h2, rfl, h6⟩ ?_
        rintro s ⟨h1, h2, h4, h6⟩
        refine .nsq ?_
        refine .ret ?_
        have hr := Option.some.inj h
        subst hr
        exact rrA (res_tmp h4) rfl
      · refine .skip ?_
        refine .nbk ?_
        refine .nsq ?_
        refine run_reg ?_
        refine e_end ?_
        refine g_v1 (t := 6) (u := (.int .i64 x_11)) (.int .i64 x_11) h6 rfl rfl ?_
        refine g_v1 (t := 34) (u := (.int .i64 x_11)) (.int .i64 (w64 (x_11 + 1))) rfl rfl rfl ?_
        refine g_v1 (t := 35) (u := (.int .i64 (w64 (x_11 + 1)))) (.int .i64 (w64 (x_11 + 1))) rfl rfl rfl ?_
        refine g_end ?_
        refine e_end ?_
        refine renew [(1, (Enc.enc (parents_2 : List Int))), (2, (.ref (.bx 2) 0 [] (.agg [(.int .i64 g_1.1), (Enc.enc (g_1.2 : List (Int × Int)))]))), (4, (.bool false)), (6, (.int .i64 (w64 (x_11 + 1))))] ⟨h1, h2, h4, rfl⟩ ?_
        rintro s ⟨h1, h2, h4, h6⟩
        refine .nlp ?_
        exact ih (w64 (x_11 + 1)) _ ⟨h1, h2, h4, h6⟩ h
    · refine .exit ?_
      refine .esq ?_
      refine .elp ?_
      refine .ebk ?_
      refine .nsq ?_
      refine .seq ?_
      refine .seq ?_
      refine run_reg ?_
      refine e_end ?_
      refine g_v0 (.int .i64 0) rfl rfl ?_
      refine g_end ?_
      refine e_end ?_
      refine renew [(1, (Enc.enc (parents_2 : List Int))), (2, (.ref (.bx 2) 0 [] (.agg [(.int .i64 g_1.1), (Enc.enc (g_1.2 : List (Int × Int)))]))), (4, (.bool false)), (7, (.int .i64 0))] ⟨h1, h2, h4, rfl⟩ ?_
      rintro s ⟨h1, h2, h4, h7⟩
      refine .nsq ?_
      refine .block ?_
      refine .loop ?_
      exact t_f36_l3 H parents_2 g_1 F 0 _ ⟨h1, h2, h4, h7⟩ h
def s_l7Forest_l1 (F : Nat) (parents_2 : (List Int)) (g_1 : (Int × (List (Int × Int))))  : Nat → Int → Option Bool
  | 0, _ => none
  | k + 1, x_5 =>
    bif decide (x_5 < g_1.1) then
      (idx parents_2 x_5).bind fun e_8 =>
      (s_l1In F e_8 (-1) (w64 (g_1.1 - 1))).bind fun r_9 =>
      bif (!r_9) then
        some false
      else
        (s_l7Forest_l1 F parents_2 g_1 k) (w64 (x_5 + 1))
    else
      s_l7Forest_l2 F parents_2 g_1 F 0
theorem t_f36_l1 (H : H36 D σ F) (parents_2 : (List Int)) (g_1 : (Int × (List (Int × Int))))  : ∀ (k : Nat) (x_5 : Int) (s : Nat → V), Facts [(1, (Enc.enc (parents_2 : List Int))), (2, (.ref (.bx 2) 0 [] (.agg [(.int .i64 g_1.1), (Enc.enc (g_1.2 : List (Int × Int)))]))), (4, (.bool false)), (5, (.int .i64 x_5))] s → s_l7Forest_l1 F parents_2 g_1 k x_5 = some r → Run D σ (R36 r) (.run A36_15 [.lp A36_15, .bk 0, .sq A36_20]) s := by
  intro k
  induction k with
  | zero => intro x_5 s _ h; exact nomatch (h : (none : Option _) = some r)
  | succ k ih =>
    intro x_5 s hs h
    rw [s_l7Forest_l1] at h
    obtain ⟨h1, h2, h4, h5⟩ := hs
    refine .seq ?_
    refine .seq ?_
    refine run_reg ?_
    refine e_end ?_
    refine g_v1 (t := 5) (u := (.int .i64 x_5)) (.int .i64 x_5) h5 rfl rfl ?_
    refine g_v1 (t := 2) (u := (.ref (.bx 2) 0 [] (.agg [(.int .i64 g_1.1), (Enc.enc (g_1.2 : List (Int × Int)))]))) (.ref (.bx 2) 0 [0] (.int .i64 g_1.1)) h2 rfl rfl ?_
    refine g_v1 (t := 16) (u := (.ref (.bx 2) 0 [0] (.int .i64 g_1.1))) (.int .i64 g_1.1) rfl rfl rfl ?_
    refine g_v2 (t1 := 15) (t2 := 17) (u1 := (.int .i64 x_5)) (u2 := (.int .i64 g_1.1)) (.bool (decide (x_5 < g_1.1))) rfl rfl rfl rfl ?_
    refine g_end ?_
    refine e_end ?_
    refine renew [(1, (Enc.enc (parents_2 : List Int))), (2, (.ref (.bx 2) 0 [] (.agg [(.int .i64 g_1.1), (Enc.enc (g_1.2 : List (Int × Int)))]))), (4, (.bool false)), (5, (.int .i64 x_5)), (18, (.bool (decide (x_5 < g_1.1))))] ⟨h1, h2, h4, h5, rfl⟩ ?_
    rintro s ⟨h1, h2, h4, h5, h18⟩
    refine .nsq ?_
    refine run_cond (t := decide (x_5 < g_1.1)) h18 h (fun h => ?_) (fun h => ?_)
    · refine .skip ?_
      refine .nsq ?_
      refine .seq ?_
      refine .block ?_
      refine .seq ?_
      refine run_reg ?_
      refine e_end ?_
      refine g_v1 (t := 1) (u := (Enc.enc (parents_2 : List Int))) (Enc.enc (parents_2 : List Int)) h1 rfl rfl ?_
      refine g_v1 (t := 5) (u := (.int .i64 x_5)) (.int .i64 x_5) h5 rfl rfl ?_
      obtain ⟨e_8, E_e_8, h⟩ := bind_some h
      refine g_v (.ref .sh 0 [] (.int .i64 e_8)) (ev_idx (t := .sh) (lo := 0) (xs := parents_2) rfl rfl E_e_8 rfl rfl) ?_
      refine g_v1 (t := 23) (u := (.ref .sh 0 [] (.int .i64 e_8))) (.int .i64 e_8) rfl rfl rfl ?_
      refine g_v1 (t := 2) (u := (.ref (.bx 2) 0 [] (.agg [(.int .i64 g_1.1), (Enc.enc (g_1.2 : List (Int × Int)))]))) (.ref (.bx 2) 0 [0] (.int .i64 g_1.1)) h2 rfl rfl ?_
      refine g_v1 (t := 25) (u := (.ref (.bx 2) 0 [0] (.int .i64 g_1.1))) (.int .i64 g_1.1) rfl rfl rfl ?_
      refine g_v1 (t := 26) (u := (.int .i64 g_1.1)) (.int .i64 (w64 (g_1.1 - 1))) rfl rfl rfl ?_
      obtain ⟨r_9, E_r_9, h⟩ := bind_some h
      refine g_call (m := 0) (al := false) (r := (Enc.enc (r_9 : Bool))) [Enc.enc (e_8 : Int), Enc.enc ((-1) : Int), Enc.enc (w64 (g_1.1 - 1) : Int)] (ta_cons (v := (.int .i64 e_8)) rfl rfl rfl (ta_cons (v := (.int .i64 (-1))) rfl rfl rfl (ta_cons (v := (.int .i64 (w64 (g_1.1 - 1)))) rfl rfl rfl ta_nil))) (H.c56 _ _ _ _ E_r_9) H.g56 rfl rfl rfl rfl ?_
      refine g_v1 (t := 28) (u := (.bool r_9)) (.bool (!r_9)) rfl rfl rfl ?_
      refine g_end ?_
      refine e_end ?_
      refine renew [(1, (Enc.enc (parents_2 : List Int))), (2, (.ref (.bx 2) 0 [] (.agg [(.int .i64 g_1.1), (Enc.enc (g_1.2 : List (Int × Int)))]))), (4, (.bool false)), (5, (.int .i64 x_5)), (29, (.bool (!r_9)))] ⟨h1, h2, h4, h5, rfl⟩ ?_
      rintro s ⟨h1, h2, h4, h5, h29⟩
      refine .nsq ?_
      refine run_cond (t := (!r_9)) h29 h (fun h => ?_) (fun h => ?_)
      · refine .seq ?_
        refine run_reg ?_
        refine e_end ?_
        refine g_v0 (.bool false) rfl rfl ?_
        refine g_end ?_
        refine e_end ?_
        refine renew [(1, (Enc.enc (parents_2 : List Int))), (2, (.ref (.bx 2) 0 [] (.agg [(.int .i64 g_1.1), (Enc.enc (g_1.2 : List (Int × Int)))]))), (4, (.bool false)), (5, (.int .i64 x_5))] ⟨h1, h2, rfl, h5⟩ ?_
        rintro s ⟨h1, h2, h4, h5⟩
        refine .nsq ?_
        refine .ret ?_
        have hr := Option.some.inj h
        subst hr
        exact rrA (res_tmp h4) rfl
      · refine .skip ?_
        refine .nbk ?_
        refine .nsq ?_
        refine run_reg ?_
        refine e_end ?_
        refine g_v1 (t := 5) (u := (.int .i64 x_5)) (.int .i64 x_5) h5 rfl rfl ?_
        refine g_v1 (t := 19) (u := (.int .i64 x_5)) (.int .i64 (w64 (x_5 + 1))) rfl rfl rfl ?_
        refine g_v1 (t := 20) (u := (.int .i64 (w64 (x_5 + 1)))) (.int .i64 (w64 (x_5 + 1))) rfl rfl rfl ?_
        refine g_end ?_
        refine e_end ?_
        refine renew [(1, (Enc.enc (parents_2 : List Int))), (2, (.ref (.bx 2) 0 [] (.agg [(.int .i64 g_1.1), (Enc.enc (g_1.2 : List (Int × Int)))]))), (4, (.bool false)), (5, (.int .i64 (w64 (x_5 + 1))))] ⟨h1, h2, h4, rfl⟩ ?_
        rintro s ⟨h1, h2, h4, h5⟩
        refine .nlp ?_
        exact ih (w64 (x_5 + 1)) _ ⟨h1, h2, h4, h5⟩ h
    · refine .exit ?_
      refine .esq ?_
      refine .elp ?_
      refine .ebk ?_
      refine .nsq ?_
      refine .seq ?_
      refine .seq ?_
      refine run_reg ?_
      refine e_end ?_
      refine g_v0 (.int .i64 0) rfl rfl ?_
      refine g_end ?_
      refine e_end ?_
      refine renew [(1, (Enc.enc (parents_2 : List Int))), (2, (.ref (.bx 2) 0 [] (.agg [(.int .i64 g_1.1), (Enc.enc (g_1.2 : List (Int × Int)))]))), (4, (.bool false)), (6, (.int .i64 0))] ⟨h1, h2, h4, rfl⟩ ?_
      rintro s ⟨h1, h2, h4, h6⟩
      refine .nsq ?_
      refine .block ?_
      refine .loop ?_
      exact t_f36_l2 H parents_2 g_1 F 0 _ ⟨h1, h2, h4, h6⟩ h
def s_l7Forest (F : Nat) (g_1 : (Int × (List (Int × Int)))) (parents_2 : (List Int)) : Option Bool :=
  bif ((parents_2.length : Int) != g_1.1) then
    some false
  else
    s_l7Forest_l1 F parents_2 g_1 F 0
theorem t36 (H : H36 D σ F) (g_1 : (Int × (List (Int × Int)))) (parents_2 : (List Int)) (s : Nat → V) (hs : Facts [(0, (.agg [(.int .i64 g_1.1), (Enc.enc (g_1.2 : List (Int × Int)))])), (1, (Enc.enc (parents_2 : List Int)))] s) (h : s_l7Forest F g_1 parents_2 = some r) : Run D σ (R36 r) (.run A36 []) s := by
  unfold s_l7Forest at h
  obtain ⟨h0, h1⟩ := hs
  refine .seq ?_
  refine run_reg ?_
  refine e_clr ?_
  refine e_end ?_
  refine g_box (.agg [(.int .i64 g_1.1), (Enc.enc (g_1.2 : List (Int × Int)))]) (rd_of (keep_clear (s := s) (pk := [2]) h0 rfl (map_agg (maps_cons rfl (maps_cons (Enc.map_enc _ (g_1.2 : List (Int × Int))) maps_nil)))) rfl) (gone_clear (s := s) (pk := [2]) (t := 2) rfl) rfl ?_
  refine g_v0 (.bool false) rfl rfl ?_
  refine g_end ?_
  refine e_end ?_
  refine renew [(1, (Enc.enc (parents_2 : List Int))), (2, (.ref (.bx 2) 0 [] (.agg [(.int .i64 g_1.1), (Enc.enc (g_1.2 : List (Int × Int)))]))), (4, (.bool false))] ⟨(keep_clear (s := s) (pk := [2]) h1 rfl (Enc.map_enc _ (parents_2 : List Int))), rfl, rfl⟩ ?_
  rintro s ⟨h1, h2, h4⟩
  refine .nsq ?_
  refine .seq ?_
  refine .seq ?_
  refine run_reg ?_
  refine e_end ?_
  refine g_v1 (t := 1) (u := (Enc.enc (parents_2 : List Int))) (Enc.enc (parents_2 : List Int)) h1 rfl rfl ?_
  refine g_v (.int .i64 (parents_2.length : Int)) (ev_len (xs := parents_2) rfl) ?_
  refine g_v1 (t := 2) (u := (.ref (.bx 2) 0 [] (.agg [(.int .i64 g_1.1), (Enc.enc (g_1.2 : List (Int × Int)))]))) (.ref (.bx 2) 0 [0] (.int .i64 g_1.1)) h2 rfl rfl ?_
  refine g_v1 (t := 12) (u := (.ref (.bx 2) 0 [0] (.int .i64 g_1.1))) (.int .i64 g_1.1) rfl rfl rfl ?_
  refine g_v2 (t1 := 11) (t2 := 13) (u1 := (.int .i64 (parents_2.length : Int))) (u2 := (.int .i64 g_1.1)) (.bool ((parents_2.length : Int) != g_1.1)) rfl rfl rfl rfl ?_
  refine g_end ?_
  refine e_end ?_
  refine renew [(1, (Enc.enc (parents_2 : List Int))), (2, (.ref (.bx 2) 0 [] (.agg [(.int .i64 g_1.1), (Enc.enc (g_1.2 : List (Int × Int)))]))), (4, (.bool false)), (14, (.bool ((parents_2.length : Int) != g_1.1)))] ⟨h1, h2, h4, rfl⟩ ?_
  rintro s ⟨h1, h2, h4, h14⟩
  refine .nsq ?_
  refine run_cond (t := ((parents_2.length : Int) != g_1.1)) h14 h (fun h => ?_) (fun h => ?_)
  · refine .seq ?_
    refine run_reg ?_
    refine e_end ?_
    refine g_v0 (.bool false) rfl rfl ?_
    refine g_end ?_
    refine e_end ?_
    refine renew [(1, (Enc.enc (parents_2 : List Int))), (2, (.ref (.bx 2) 0 [] (.agg [(.int .i64 g_1.1), (Enc.enc (g_1.2 : List (Int × Int)))]))), (4, (.bool false))] ⟨h1, h2, rfl⟩ ?_
    rintro s ⟨h1, h2, h4⟩
    refine .nsq ?_
    refine .ret ?_
    have hr := Option.some.inj h
    subst hr
    exact rrA (res_tmp h4) rfl
  · refine .skip ?_
    refine .nsq ?_
    refine .seq ?_
    refine .seq ?_
    refine run_reg ?_
    refine e_end ?_
    refine g_v0 (.int .i64 0) rfl rfl ?_
    refine g_end ?_
    refine e_end ?_
    refine renew [(1, (Enc.enc (parents_2 : List Int))), (2, (.ref (.bx 2) 0 [] (.agg [(.int .i64 g_1.1), (Enc.enc (g_1.2 : List (Int × Int)))]))), (4, (.bool false)), (5, (.int .i64 0))] ⟨h1, h2, h4, rfl⟩ ?_
    rintro s ⟨h1, h2, h4, h5⟩
    refine .nsq ?_
    refine .block ?_
    refine .loop ?_
    exact t_f36_l1 H parents_2 g_1 F 0 _ ⟨h1, h2, h4, h5⟩ h
end
def e36 (F : Nat) : Ent := ⟨36, dn2 (s_l7Forest F) (fun (r : Bool) => (Enc.enc (r : Bool))), 0, false⟩
theorem o36 {D : Den} {σ : Sig} {F : Nat} (hF : Fits2 Try.prog D σ) (H : H36 D σ F) : (e36 F).Ok Try.prog := by
  refine ⟨fun args r h => ?_, ⟨Try.f36, Try.func36, rfl, rfl⟩⟩
  obtain ⟨x0, x1, y, rfl, hy, rfl⟩ := dn2_open h
  exact contract_run hF (by kernel_rfl) Try.func36 rfl c36 (show 2 ≤ Try.f36.ntmps by decide) (t36 H x0 x1 _ ⟨rfl, rfl⟩ hy)
/- loop.example/g01109/spec.IsForest -/
def A16_2 : AC := (AC.cond (O.t 8) (AC.seq (AC.reg [] [(I.mk (some 4) none false (X.v (A.mov (O.k (V.bool false))))), (I.mk (some 5) none false (X.v (A.mov (O.k (V.bool false)))))] []) AC.ret) AC.skip)
def A16_3 : AC := (AC.seq (AC.reg [] [(I.mk (some 9) none false (X.v (A.load (Sh.ag [Sh.s, Sh.p]) (O.t 2)))), (I.mk (some 10) none false (X.v (A.mov (O.t 1)))), (I.mk (some 11) none false (X.call (O.k (V.fn 36 [] [])) [(O.t 9), (O.t 10)])), (I.mk (some 4) none false (X.v (A.mov (O.t 11)))), (I.mk (some 5) none false (X.v (A.mov (O.k (V.bool true)))))] []) AC.ret)
def A16_1 : AC := (AC.seq (AC.seq (AC.reg [] [(I.mk (some 6) none false (X.v (A.load (Sh.ag [Sh.s, Sh.p]) (O.t 2)))), (I.mk (some 7) none false (X.call (O.k (V.fn 30 [] [])) [(O.t 6)])), (I.mk (some 8) none false (X.v (A.un UnOp.not (O.t 7))))] []) A16_2) A16_3)
def A16 : AC := (AC.seq (AC.reg [.clr [2]] [(I.mk (some 2) none false (X.box (O.t 0))), (I.mk (some 4) none false (X.v (A.mov (O.k (V.bool false))))), (I.mk (some 5) none false (X.v (A.mov (O.k (V.bool false)))))] []) A16_1)
def an16 : List An := [{ id := 0, pre := [.clr [2]], ep := [] }]
theorem c16 : cC Try.prog Try.f16.ntmps an16 (Try.f16.body.getD .skip) = some A16 := by rfl
structure H16 (D : Den) (σ : Sig) (F : Nat) : Prop where
  c30 : ∀ x0 r, s_l2Good F x0 = some r → D 30 [Enc.enc x0] = some (Enc.enc (r : Bool))
  g30 : σ 30 = some (0, false)
  c36 : ∀ x0 x1 r, s_l7Forest F x0 x1 = some r → D 36 [Enc.enc x0, Enc.enc x1] = some (Enc.enc (r : Bool))
  g36 : σ 36 = some (0, false)
abbrev R16 (r : (Bool × Bool)) : (Nat → V) → Prop := RR Try.prog [.tmp 4, .tmp 5] 0 false (.tup [Enc.enc (r.1 : Bool), Enc.enc (r.2 : Bool)])
section
variable {D : Den} {σ : Sig} {F : Nat} {r : (Bool × Bool)}
def s_IsForest (F : Nat) (g_1 : (Int × (List (Int × Int)))) (parents_2 : (List Int)) : Option (Bool × Bool) :=
  (s_l2Good F g_1).bind fun r_3 =>
  bif (!r_3) then
    some (false, false)
  else
    (s_l7Forest F g_1 parents_2).bind fun r_4 =>
    some (r_4, true)
theorem t16 (H : H16 D σ F) (g_1 : (Int × (List (Int × Int)))) (parents_2 : (List Int)) (s : Nat → V) (hs : Facts [(0, (.agg [(.int .i64 g_1.1), (Enc.enc (g_1.2 : List (Int × Int)))])), (1, (Enc.enc (parents_2 : List Int)))] s) (h : s_IsForest F g_1 parents_2 = some r) : Run D σ (R16 r) (.run A16 []) s := by
  unfold s_IsForest at h
  obtain ⟨h0, h1⟩ := hs
  refine .seq ?_
  refine run_reg ?_
  refine e_clr ?_
  refine e_end ?_
  refine g_box (.agg [(.int .i64 g_1.1), (Enc.enc (g_1.2 : List (Int × Int)))]) (rd_of (keep_clear (s := s) (pk := [2]) h0 rfl (map_agg (maps_cons rfl (maps_cons (Enc.map_enc _ (g_1.2 : List (Int × Int))) maps_nil)))) rfl) (gone_clear (s := s) (pk := [2]) (t := 2) rfl) rfl ?_
  refine g_v0 (.bool false) rfl rfl ?_
  refine g_v0 (.bool false) rfl rfl ?_
  refine g_end ?_
  refine e_end ?_
  refine renew [(1, (Enc.enc (parents_2 : List Int))), (2, (.ref (.bx 2) 0 [] (.agg [(.int .i64 g_1.1), (Enc.enc (g_1.2 : List (Int × Int)))]))), (4, (.bool false)), (5, (.bool false))] ⟨(keep_clear (s := s) (pk := [2]) h1 rfl (Enc.map_enc _ (parents_2 : List Int))), rfl, rfl, rfl⟩ ?_
  rintro s ⟨h1, h2, h4, h5⟩
  refine .nsq ?_
  refine .seq ?_
  refine .seq ?_
  refine run_reg ?_
  refine e_end ?_
  refine g_v1 (t := 2) (u := (.ref (.bx 2) 0 [] (.agg [(.int .i64 g_1.1), (Enc.enc (g_1.2 : List (Int × Int)))]))) (.agg [(.int .i64 g_1.1), (Enc.enc (g_1.2 : List (Int × Int)))]) h2 rfl rfl ?_
  obtain ⟨r_3, E_r_3, h⟩ := bind_some h
  refine g_call (m := 0) (al := false) (r := (Enc.enc (r_3 : Bool))) [Enc.enc (g_1 : (Int × (List (Int × Int))))] (ta_cons (v := (.agg [(.int .i64 g_1.1), (Enc.enc (g_1.2 : List (Int × Int)))])) rfl rfl (Enc.erase_enc (g_1 : (Int × (List (Int × Int))))) ta_nil) (H.c30 _ _ E_r_3) H.g30 rfl rfl rfl rfl ?_
  refine g_v1 (t := 7) (u := (.bool r_3)) (.bool (!r_3)) rfl rfl rfl ?_
  refine g_end ?_
  refine e_end ?_
  refine renew [(1, (Enc.enc (parents_2 : List Int))), (2, (.ref (.bx 2) 0 [] (.agg [(.int .i64 g_1.1), (Enc.enc (g_1.2 : List (Int × Int)))]))), (4, (.bool false)), (5, (.bool false)), (8, (.bool (!r_3)))] ⟨h1, h2, h4, h5, rfl⟩ ?_
  rintro s ⟨h1, h2, h4, h5, h8⟩
  refine .nsq ?_
  refine run_cond (t := (!r_3)) h8 h (fun h => ?_) (fun h => ?_)
  · refine .seq ?_
    refine run_reg ?_
    refine e_end ?_
    refine g_v0 (.bool false) rfl rfl ?_
    refine g_v0 (.bool false) rfl rfl ?_
    refine g_end ?_
    refine e_end ?_
    refine renew [(1, (Enc.enc (parents_2 : List Int))), (2, (.ref (.bx 2) 0 [] (.agg [(.int .i64 g_1.1), (Enc.enc (g_1.2 : List (Int × Int)))]))), (4, (.bool false)), (5, (.bool false))] ⟨h1, h2, rfl, rfl⟩ ?_
    rintro s ⟨h1, h2, h4, h5⟩
    refine .nsq ?_
    refine .ret ?_
    have hr := Option.some.inj h
    subst hr
    exact rrB (res_tmp h4) (res_tmp h5) rfl
  · refine .skip ?_
    refine .nsq ?_
    refine .seq ?_
    refine run_reg ?_
    refine e_end ?_
    refine g_v1 (t := 2) (u := (.ref (.bx 2) 0 [] (.agg [(.int .i64 g_1.1), (Enc.enc (g_1.2 : List (Int × Int)))]))) (.agg [(.int .i64 g_1.1), (Enc.enc (g_1.2 : List (Int × Int)))]) h2 rfl rfl ?_
    refine g_v1 (t := 1) (u := (Enc.enc (parents_2 : List Int))) (Enc.enc (parents_2 : List Int)) h1 rfl rfl ?_
    obtain ⟨r_4, E_r_4, h⟩ := bind_some h
    refine g_call (m := 0) (al := false) (r := (Enc.enc (r_4 : Bool))) [Enc.enc (g_1 : (Int × (List (Int × Int)))), Enc.enc (parents_2 : (List Int))] (ta_cons (v := (.agg [(.int .i64 g_1.1), (Enc.enc (g_1.2 : List (Int × Int)))])) rfl rfl (Enc.erase_enc (g_1 : (Int × (List (Int × Int))))) (ta_cons (v := (Enc.enc (parents_2 : List Int))) rfl rfl (Enc.erase_enc (parents_2 : (List Int))) ta_nil)) (H.c36 _ _ _ E_r_4) H.g36 rfl rfl rfl rfl ?_
    refine g_v1 (t := 11) (u := (.bool r_4)) (.bool r_4) rfl rfl rfl ?_
    refine g_v0 (.bool true) rfl rfl ?_
    refine g_end ?_
    refine e_end ?_
    refine renew [(4, (.bool r_4)), (5, (.bool true))] ⟨rfl, rfl⟩ ?_
    rintro s ⟨h4, h5⟩
    refine .nsq ?_
    refine .ret ?_
    have hr := Option.some.inj h
    subst hr
    exact rrB (res_tmp h4) (res_tmp h5) rfl
end
def e16 (F : Nat) : Ent := ⟨16, dn2 (s_IsForest F) (fun (r : (Bool × Bool)) => (.tup [Enc.enc (r.1 : Bool), Enc.enc (r.2 : Bool)])), 0, false⟩
theorem o16 {D : Den} {σ : Sig} {F : Nat} (hF : Fits2 Try.prog D σ) (H : H16 D σ F) : (e16 F).Ok Try.prog := by
  refine ⟨fun args r h => ?_, ⟨Try.f16, Try.func16, rfl, rfl⟩⟩
  obtain ⟨x0, x1, y, rfl, hy, rfl⟩ := dn2_open h
  exact contract_run hF (by kernel_rfl) Try.func16 rfl c16 (show 2 ≤ Try.f16.ntmps by decide) (t16 H x0 x1 _ ⟨rfl, rfl⟩ hy)
/- loop.example/g01109/impl.within -/
def A60_1 : AC := (AC.seq (AC.reg [] [(I.mk (some 7) none false (X.v (A.mov (O.t 0)))), (I.mk (some 8) none false (X.v (A.mov (O.t 1)))), (I.mk (some 9) none false (X.v (A.bin BinOp.geq (O.t 7) (O.t 8)))), (I.mk (some 10) none false (X.v (A.mov (O.t 9)))), (I.mk (some 11) (some (10, true)) false (X.v (A.mov (O.t 0)))), (I.mk (some 12) (some (10, true)) false (X.v (A.mov (O.t 2)))), (I.mk (some 13) (some (10, true)) false (X.v (A.bin BinOp.leq (O.t 11) (O.t 12)))), (I.mk (some 14) none false (X.v (A.pick (O.t 10) (O.t 13) (O.k (V.bool false))))), (I.mk (some 6) none false (X.v (A.mov (O.t 14))))] []) AC.ret)
def A60 : AC := (AC.seq (AC.reg [] [(I.mk (some 6) none false (X.v (A.mov (O.k (V.bool false)))))] []) A60_1)
def an60 : List An := []
theorem c60 : cC Try.prog Try.f60.ntmps an60 (Try.f60.body.getD .skip) = some A60 := by rfl
structure H60 (D : Den) (σ : Sig) (F : Nat) : Prop where
  mk ::
abbrev R60 (r : Bool) : (Nat → V) → Prop := RR Try.prog [.tmp 6] 0 false (Enc.enc (r : Bool))
section
variable {D : Den} {σ : Sig} {F : Nat} {r : Bool}
def i_within (F : Nat) (n_1 : Int) (low_2 : Int) (high_3 : Int) : Option Bool :=
  bif decide (n_1 ≥ low_2) then
    some (decide (n_1 ≤ high_3))
  else
    some false
theorem t60 (H : H60 D σ F) (n_1 : Int) (low_2 : Int) (high_3 : Int) (s : Nat → V) (hs : Facts [(0, (.int .i64 n_1)), (1, (.int .i64 low_2)), (2, (.int .i64 high_3))] s) (h : i_within F n_1 low_2 high_3 = some r) : Run D σ (R60 r) (.run A60 []) s := by
  unfold i_within at h
  obtain ⟨h0, h1, h2⟩ := hs
  refine .seq ?_
  refine run_reg ?_
  refine e_end ?_
  refine g_v0 (.bool false) rfl rfl ?_
  refine g_end ?_
  refine e_end ?_
  refine renew [(0, (.int .i64 n_1)), (1, (.int .i64 low_2)), (2, (.int .i64 high_3)), (6, (.bool false))] ⟨h0, h1, h2, rfl⟩ ?_
  rintro s ⟨h0, h1, h2, h6⟩
  refine .nsq ?_
  refine .seq ?_
  refine run_reg ?_
  refine e_end ?_
  refine g_v1 (t := 0) (u := (.int .i64 n_1)) (.int .i64 n_1) h0 rfl rfl ?_
  refine g_v1 (t := 1) (u := (.int .i64 low_2)) (.int .i64 low_2) h1 rfl rfl ?_
  refine g_v2 (t1 := 7) (t2 := 8) (u1 := (.int .i64 n_1)) (u2 := (.int .i64 low_2)) (.bool (decide (n_1 ≥ low_2))) rfl rfl rfl rfl ?_
  refine g_v1 (t := 9) (u := (.bool (decide (n_1 ≥ low_2)))) (.bool (decide (n_1 ≥ low_2))) rfl rfl rfl ?_
  refine split_on (c := decide (n_1 ≥ low_2)) h (fun hg4 h => ?_) (fun hg4 h => ?_)
  · refine g_yes (Eq.trans (b := .bool (decide (n_1 ≥ low_2))) rfl (congrArg V.bool hg4)) (g_v1 (t := 0) (u := (.int .i64 n_1)) (.int .i64 n_1) h0 rfl rfl ?_)
    refine g_yes (Eq.trans (b := .bool (decide (n_1 ≥ low_2))) rfl (congrArg V.bool hg4)) (g_v1 (t := 2) (u := (.int .i64 high_3)) (.int .i64 high_3) h2 rfl rfl ?_)
    refine g_yes (Eq.trans (b := .bool (decide (n_1 ≥ low_2))) rfl (congrArg V.bool hg4)) (g_v2 (t1 := 11) (t2 := 12) (u1 := (.int .i64 n_1)) (u2 := (.int .i64 high_3)) (.bool (decide (n_1 ≤ high_3))) rfl rfl rfl rfl ?_)
    refine g_v2 (t1 := 10) (t2 := 13) (u1 := (.bool true)) (u2 := (.bool (decide (n_1 ≤ high_3)))) (.bool (decide (n_1 ≤ high_3))) (Eq.trans (b := .bool (decide (n_1 ≥ low_2))) rfl (congrArg V.bool hg4)) rfl rfl rfl ?_
    refine g_v1 (t := 14) (u := (.bool (decide (n_1 ≤ high_3)))) (.bool (decide (n_1 ≤ high_3))) rfl rfl rfl ?_
    refine g_end ?_
    refine e_end ?_
    refine renew [(6, (.bool (decide (n_1 ≤ high_3))))] rfl ?_
    rintro s h6
    refine .nsq ?_
    refine .ret ?_
    have hr := Option.some.inj h
    subst hr
    exact rrA (res_tmp h6) rfl
  · refine g_no (Eq.trans (b := .bool (decide (n_1 ≥ low_2))) rfl (congrArg V.bool hg4)) ?_
    refine g_no (Eq.trans (b := .bool (decide (n_1 ≥ low_2))) rfl (congrArg V.bool hg4)) ?_
    refine g_no (Eq.trans (b := .bool (decide (n_1 ≥ low_2))) rfl (congrArg V.bool hg4)) ?_
    refine g_v2 (t1 := 10) (t2 := 13) (u1 := (.bool false)) (u2 := (.tup [])) (.bool false) (Eq.trans (b := .bool (decide (n_1 ≥ low_2))) rfl (congrArg V.bool hg4)) rfl rfl rfl ?_
    refine g_v1 (t := 14) (u := (.bool false)) (.bool false) rfl rfl rfl ?_
    refine g_end ?_
    refine e_end ?_
    refine renew [(6, (.bool false))] rfl ?_
    rintro s h6
    refine .nsq ?_
    refine .ret ?_
    have hr := Option.some.inj h
    subst hr
    exact rrA (res_tmp h6) rfl
end
def e60 (F : Nat) : Ent := ⟨60, dn3 (i_within F) (fun (r : Bool) => (Enc.enc (r : Bool))), 0, false⟩
theorem o60 {D : Den} {σ : Sig} {F : Nat} (hF : Fits2 Try.prog D σ) (H : H60 D σ F) : (e60 F).Ok Try.prog := by
  refine ⟨fun args r h => ?_, ⟨Try.f60, Try.func60, rfl, rfl⟩⟩
  obtain ⟨x0, x1, x2, y, rfl, hy, rfl⟩ := dn3_open h
  exact contract_run hF (by kernel_rfl) Try.func60 rfl c60 (show 3 ≤ Try.f60.ntmps by decide) (t60 H x0 x1 x2 _ ⟨rfl, rfl, rfl⟩ hy)
/- cmp.isNaN[int] -/
def A80_1 : AC := (AC.seq (AC.reg [] [(I.mk (some 3) none false (X.v (A.mov (O.t 0)))), (I.mk (some 4) none false (X.v (A.mov (O.t 0)))), (I.mk (some 5) none false (X.v (A.bin BinOp.neq (O.t 3) (O.t 4)))), (I.mk (some 2) none false (X.v (A.mov (O.t 5))))] []) AC.ret)
def A80 : AC := (AC.seq (AC.reg [] [(I.mk (some 2) none false (X.v (A.mov (O.k (V.bool false)))))] []) A80_1)
def an80 : List An := []
theorem c80 : cC Try.prog Try.f80.ntmps an80 (Try.f80.body.getD .skip) = some A80 := by rfl
structure H80 (D : Den) (σ : Sig) (F : Nat) : Prop where
  mk ::
abbrev R80 (r : Bool) : (Nat → V) → Prop := RR Try.prog [.tmp 2] 0 false (Enc.enc (r : Bool))
section
variable {D : Den} {σ : Sig} {F : Nat} {r : Bool}
def cmp_isNaN_int (F : Nat) (x_1 : Int) : Option Bool :=
  some (x_1 != x_1)
theorem t80 (H : H80 D σ F) (x_1 : Int) (s : Nat → V) (hs : Facts [(0, (.int .i64 x_1))] s) (h : cmp_isNaN_int F x_1 = some r) : Run D σ (R80 r) (.run A80 []) s := by
  unfold cmp_isNaN_int at h
  have h0 := hs
  refine .seq ?_
  refine run_reg ?_
  refine e_end ?_
  refine g_v0 (.bool false) rfl rfl ?_
  refine g_end ?_
  refine e_end ?_
  refine renew [(0, (.int .i64 x_1)), (2, (.bool false))] ⟨h0, rfl⟩ ?_
  rintro s ⟨h0, h2⟩
  refine .nsq ?_
  refine .seq ?_
  refine run_reg ?_
  refine e_end ?_
  refine g_v1 (t := 0) (u := (.int .i64 x_1)) (.int .i64 x_1) h0 rfl rfl ?_
  refine g_v1 (t := 0) (u := (.int .i64 x_1)) (.int .i64 x_1) h0 rfl rfl ?_
  refine g_v2 (t1 := 3) (t2 := 4) (u1 := (.int .i64 x_1)) (u2 := (.int .i64 x_1)) (.bool (x_1 != x_1)) rfl rfl rfl rfl ?_
  refine g_v1 (t := 5) (u := (.bool (x_1 != x_1))) (.bool (x_1 != x_1)) rfl rfl rfl ?_
  refine g_end ?_
  refine e_end ?_
  refine renew [(2, (.bool (x_1 != x_1)))] rfl ?_
  rintro s h2
  refine .nsq ?_
  refine .ret ?_
  have hr := Option.some.inj h
  subst hr
  exact rrA (res_tmp h2) rfl
end
def e80 (F : Nat) : Ent := ⟨80, dn1 (cmp_isNaN_int F) (fun (r : Bool) => (Enc.enc (r : Bool))), 0, false⟩
theorem o80 {D : Den} {σ : Sig} {F : Nat} (hF : Fits2 Try.prog D σ) (H : H80 D σ F) : (e80 F).Ok Try.prog := by
  refine ⟨fun args r h => ?_, ⟨Try.f80, Try.func80, rfl, rfl⟩⟩
  obtain ⟨x0, y, rfl, hy, rfl⟩ := dn1_open h
  exact contract_run hF (by kernel_rfl) Try.func80 rfl c80 (show 1 ≤ Try.f80.ntmps by decide) (t80 H x0 _ rfl hy)
/- cmp.Compare[int] -/
def A78_5 : AC := (AC.cond (O.t 12) (AC.seq (AC.reg [] [(I.mk (some 4) none false (X.v (A.mov (O.k (V.int IntKind.i64 (Int.ofNat 0))))))] []) AC.ret) AC.skip)
def A78_6 : AC := (AC.seq (AC.reg [] [(I.mk (some 4) none false (X.v (A.mov (O.k (V.int IntKind.i64 (Int.negSucc 0))))))] []) AC.ret)
def A78_4 : AC := (AC.cond (O.t 11) (AC.seq (AC.seq (AC.reg [] [(I.mk (some 12) none false (X.v (A.mov (O.t 6))))] []) A78_5) A78_6) AC.skip)
def A78_8 : AC := (AC.cond (O.t 13) (AC.seq (AC.reg [] [(I.mk (some 4) none false (X.v (A.mov (O.k (V.int IntKind.i64 (Int.ofNat 1))))))] []) AC.ret) AC.skip)
def A78_10 : AC := (AC.cond (O.t 16) (AC.seq (AC.reg [] [(I.mk (some 4) none false (X.v (A.mov (O.k (V.int IntKind.i64 (Int.negSucc 0))))))] []) AC.ret) AC.skip)
def A78_12 : AC := (AC.cond (O.t 19) (AC.seq (AC.reg [] [(I.mk (some 4) none false (X.v (A.mov (O.k (V.int IntKind.i64 (Int.ofNat 1))))))] []) AC.ret) AC.skip)
def A78_13 : AC := (AC.seq (AC.reg [] [(I.mk (some 4) none false (X.v (A.mov (O.k (V.int IntKind.i64 (Int.ofNat 0))))))] []) AC.ret)
def A78_11 : AC := (AC.seq (AC.seq (AC.reg [] [(I.mk (some 17) none false (X.v (A.mov (O.t 0)))), (I.mk (some 18) none false (X.v (A.mov (O.t 1)))), (I.mk (some 19) none false (X.v (A.bin BinOp.gtr (O.t 17) (O.t 18))))] []) A78_12) A78_13)
def A78_9 : AC := (AC.seq (AC.seq (AC.reg [] [(I.mk (some 14) none false (X.v (A.mov (O.t 0)))), (I.mk (some 15) none false (X.v (A.mov (O.t 1)))), (I.mk (some 16) none false (X.v (A.bin BinOp.lss (O.t 14) (O.t 15))))] []) A78_10) A78_11)
def A78_7 : AC := (AC.seq (AC.seq (AC.reg [] [(I.mk (some 13) none false (X.v (A.mov (O.t 6))))] []) A78_8) A78_9)
def A78_3 : AC := (AC.seq (AC.seq (AC.reg [] [(I.mk (some 11) none false (X.v (A.mov (O.t 5))))] []) A78_4) A78_7)
def A78_2 : AC := (AC.seq (AC.reg [] [(I.mk (some 9) none false (X.v (A.mov (O.t 1)))), (I.mk (some 10) none false (X.call (O.k (V.fn 80 [] [])) [(O.t 9)])), (I.mk (some 6) none false (X.v (A.mov (O.t 10))))] []) A78_3)
def A78_1 : AC := (AC.seq (AC.reg [] [(I.mk (some 7) none false (X.v (A.mov (O.t 0)))), (I.mk (some 8) none false (X.call (O.k (V.fn 80 [] [])) [(O.t 7)])), (I.mk (some 5) none false (X.v (A.mov (O.t 8))))] []) A78_2)
def A78 : AC := (AC.seq (AC.reg [] [(I.mk (some 4) none false (X.v (A.mov (O.k (V.int IntKind.i64 (Int.ofNat 0))))))] []) A78_1)
def an78 : List An := []
theorem c78 : cC Try.prog Try.f78.ntmps an78 (Try.f78.body.getD .skip) = some A78 := by rfl
structure H78 (D : Den) (σ : Sig) (F : Nat) : Prop where
  c80 : ∀ x0 r, cmp_isNaN_int F x0 = some r → D 80 [Enc.enc x0] = some (Enc.enc (r : Bool))
  g80 : σ 80 = some (0, false)
abbrev R78 (r : Int) : (Nat → V) → Prop := RR Try.prog [.tmp 4] 0 false (Enc.enc (r : Int))
section
variable {D : Den} {σ : Sig} {F : Nat} {r : Int}
def cmp_Compare_int (F : Nat) (x_1 : Int) (y_2 : Int) : Option Int :=
  (cmp_isNaN_int F x_1).bind fun r_3 =>
  (cmp_isNaN_int F y_2).bind fun r_4 =>
  bif r_3 then
    bif r_4 then
      some 0
    else
      some (-1)
  else
    bif r_4 then
      some 1
    else
      bif decide (x_1 < y_2) then
        some (-1)
      else
        bif decide (x_1 > y_2) then
          some 1
        else
          some 0
theorem t78 (H : H78 D σ F) (x_1 : Int) (y_2 : Int) (s : Nat → V) (hs : Facts [(0, (.int .i64 x_1)), (1, (.int .i64 y_2))] s) (h : cmp_Compare_int F x_1 y_2 = some r) : Run D σ (R78 r) (.run A78 []) s := by
  unfold cmp_Compare_int at h
  obtain ⟨h0, h1⟩ := hs
  refine .seq ?_
  refine run_reg ?_
  refine e_end ?_
  refine g_v0 (.int .i64 0) rfl rfl ?_
  refine g_end ?_
  refine e_end ?_
  refine renew [(0, (.int .i64 x_1)), (1, (.int .i64 y_2)), (4, (.int .i64 0))] ⟨h0, h1, rfl⟩ ?_
  rintro s ⟨h0, h1, h4⟩
  refine .nsq ?_
  refine .seq ?_
  refine run_reg ?_
  refine e_end ?_
  refine g_v1 (t := 0) (u := (.int .i64 x_1)) (.int .i64 x_1) h0 rfl rfl ?_
  obtain ⟨r_3, E_r_3, h⟩ := bind_some h
  refine g_call (m := 0) (al := false) (r := (Enc.enc (r_3 : Bool))) [Enc.enc (x_1 : Int)] (ta_cons (v := (.int .i64 x_1)) rfl rfl rfl ta_nil) (H.c80 _ _ E_r_3) H.g80 rfl rfl rfl rfl ?_
  refine g_v1 (t := 8) (u := (.bool r_3)) (.bool r_3) rfl rfl rfl ?_
  refine g_end ?_
  refine e_end ?_
  refine renew [(0, (.int .i64 x_1)), (1, (.int .i64 y_2)), (4, (.int .i64 0)), (5, (.bool r_3))] ⟨h0, h1, h4, rfl⟩ ?_
  rintro s ⟨h0, h1, h4, h5⟩
  refine .nsq ?_
  refine .seq ?_
  refine run_reg ?_
  refine e_end ?_
  refine g_v1 (t := 1) (u := (.int .i64 y_2)) (.int .i64 y_2) h1 rfl rfl ?_
  obtain ⟨r_4, E_r_4, h⟩ := bind_some h
  refine g_call (m := 0) (al := false) (r := (Enc.enc (r_4 : Bool))) [Enc.enc (y_2 : Int)] (ta_cons (v := (.int .i64 y_2)) rfl rfl rfl ta_nil) (H.c80 _ _ E_r_4) H.g80 rfl rfl rfl rfl ?_
  refine g_v1 (t := 10) (u := (.bool r_4)) (.bool r_4) rfl rfl rfl ?_
  refine g_end ?_
  refine e_end ?_
  refine renew [(0, (.int .i64 x_1)), (1, (.int .i64 y_2)), (4, (.int .i64 0)), (5, (.bool r_3)), (6, (.bool r_4))] ⟨h0, h1, h4, h5, rfl⟩ ?_
  rintro s ⟨h0, h1, h4, h5, h6⟩
  refine .nsq ?_
  refine .seq ?_
  refine .seq ?_
  refine run_reg ?_
  refine e_end ?_
  refine g_v1 (t := 5) (u := (.bool r_3)) (.bool r_3) h5 rfl rfl ?_
  refine g_end ?_
  refine e_end ?_
  refine renew [(0, (.int .i64 x_1)), (1, (.int .i64 y_2)), (4, (.int .i64 0)), (6, (.bool r_4)), (11, (.bool r_3))] ⟨h0, h1, h4, h6, rfl⟩ ?_
  rintro s ⟨h0, h1, h4, h6, h11⟩
  refine .nsq ?_
  refine run_cond (t := r_3) h11 h (fun h => ?_) (fun h => ?_)
  · refine .seq ?_
    refine .seq ?_
    refine run_reg ?_
    refine e_end ?_
    refine g_v1 (t := 6) (u := (.bool r_4)) (.bool r_4) h6 rfl rfl ?_
    refine g_end ?_
    refine e_end ?_
    refine renew [(0, (.int .i64 x_1)), (1, (.int .i64 y_2)), (4, (.int .i64 0)), (6, (.bool r_4)), (12, (.bool r_4))] ⟨h0, h1, h4, h6, rfl⟩ ?_
    rintro s ⟨h0, h1, h4, h6, h12⟩
    refine .nsq ?_
    refine run_cond (t := r_4) h12 h (fun h => ?_) (fun h => ?_)
    · refine .seq ?_
      refine run_reg ?_
      refine e_end ?_
      refine g_v0 (.int .i64 0) rfl rfl ?_
      refine g_end ?_
      refine e_end ?_
      refine renew [(0, (.int .i64 x_1)), (1, (.int .i64 y_2)), (4, (.int .i64 0)), (6, (.bool r_4))] ⟨h0, h1, rfl, h6⟩ ?_
      rintro s ⟨h0, h1, h4, h6⟩
      refine .nsq ?_
      refine .ret ?_
      have hr := Option.some.inj h
      subst hr
      exact rrA (res_tmp h4) rfl
    · refine .skip ?_
      refine .nsq ?_
      refine .seq ?_
      refine run_reg ?_
      refine e_end ?_
      refine g_v0 (.int .i64 (-1)) rfl rfl ?_
      refine g_end ?_
      refine e_end ?_
      refine renew [(0, (.int .i64 x_1)), (1, (.int .i64 y_2)), (4, (.int .i64 (-1))), (6, (.bool r_4))] ⟨h0, h1, rfl, h6⟩ ?_
      rintro s ⟨h0, h1, h4, h6⟩
      refine .nsq ?_
      refine .ret ?_
      have hr := Option.some.inj h
      subst hr
      exact rrA (res_tmp h4) rfl
  · refine .skip ?_
    refine .nsq ?_
    refine .seq ?_
    refine .seq ?_
    refine run_reg ?_
    refine e_end ?_
    refine g_v1 (t := 6) (u := (.bool r_4)) (.bool r_4) h6 rfl rfl ?_
    refine g_end ?_
    refine e_end ?_
    refine renew [(0, (.int .i64 x_1)), (1, (.int .i64 y_2)), (4, (.int .i64 0)), (13, (.bool r_4))] ⟨h0, h1, h4, rfl⟩ ?_
    rintro s ⟨h0, h1, h4, h13⟩
    refine .nsq ?_
    refine run_cond (t := r_4) h13 h (fun h => ?_) (fun h => ?_)
    · refine .seq ?_
      refine run_reg ?_
      refine e_end ?_
      refine g_v0 (.int .i64 1) rfl rfl ?_
      refine g_end ?_
      refine e_end ?_
      refine renew [(0, (.int .i64 x_1)), (1, (.int .i64 y_2)), (4, (.int .i64 1))] ⟨h0, h1, rfl⟩ ?_
      rintro s ⟨h0, h1, h4⟩
      refine .nsq ?_
      refine .ret ?_
      have hr := Option.some.inj h
      subst hr
      exact rrA (res_tmp h4) rfl
    · refine .skip ?_
      refine .nsq ?_
      refine .seq ?_
      refine .seq ?_
      refine run_reg ?_
      refine e_end ?_
      refine g_v1 (t := 0) (u := (.int .i64 x_1)) (.int .i64 x_1) h0 rfl rfl ?_
      refine g_v1 (t := 1) (u := (.int .i64 y_2)) (.int .i64 y_2) h1 rfl rfl ?_
      refine g_v2 (t1 := 14) (t2 := 15) (u1 := (.int .i64 x_1)) (u2 := (.int .i64 y_2)) (.bool (decide (x_1 < y_2))) rfl rfl rfl rfl ?_
      refine g_end ?_
      refine e_end ?_
      refine renew [(0, (.int .i64 x_1)), (1, (.int .i64 y_2)), (4, (.int .i64 0)), (16, (.bool (decide (x_1 < y_2))))] ⟨h0, h1, h4, rfl⟩ ?_
      rintro s ⟨h0, h1, h4, h16⟩
      refine .nsq ?_
      refine run_cond (t := decide (x_1 < y_2)) h16 h (fun h => ?_) (fun h => ?_)
      · refine .seq ?_
        refine run_reg ?_
        refine e_end ?_
        refine g_v0 (.int .i64 (-1)) rfl rfl ?_
        refine g_end ?_
        refine e_end ?_
        refine renew [(0, (.int .i64 x_1)), (1, (.int .i64 y_2)), (4, (.int .i64 (-1)))] ⟨h0, h1, rfl⟩ ?_
        rintro s ⟨h0, h1, h4⟩
        refine .nsq ?_
        refine .ret ?_
        have hr := Option.some.inj h
        subst hr
        exact rrA (res_tmp h4) rfl
      · refine .skip ?_
        refine .nsq ?_
        refine .seq ?_
        refine .seq ?_
        refine run_reg ?_
        refine e_end ?_
        refine g_v1 (t := 0) (u := (.int .i64 x_1)) (.int .i64 x_1) h0 rfl rfl ?_
        refine g_v1 (t := 1) (u := (.int .i64 y_2)) (.int .i64 y_2) h1 rfl rfl ?_
        refine g_v2 (t1 := 17) (t2 := 18) (u1 := (.int .i64 x_1)) (u2 := (.int .i64 y_2)) (.bool (decide (x_1 > y_2))) rfl rfl rfl rfl ?_
        refine g_end ?_
        refine e_end ?_
        refine renew [(4, (.int .i64 0)), (19, (.bool (decide (x_1 > y_2))))] ⟨h4, rfl⟩ ?_
        rintro s ⟨h4, h19⟩
        refine .nsq ?_
        refine run_cond (t := decide (x_1 > y_2)) h19 h (fun h => ?_) (fun h => ?_)
        · refine .seq ?_
          refine run_reg ?_
          refine e_end ?_
          refine g_v0 (.int .i64 1) rfl rfl ?_
          refine g_end ?_
          refine e_end ?_
          refine renew [(4, (.int .i64 1))] rfl ?_
          rintro s h4
          refine .nsq ?_
          refine .ret ?_
          have hr := Option.some.inj h
          subst hr
          exact rrA (res_tmp h4) rfl
        · refine .skip ?_
          refine .nsq ?_
          refine .seq ?_
          refine run_reg ?_
          refine e_end ?_
          refine g_v0 (.int .i64 0) rfl rfl ?_
          refine g_end ?_
          refine e_end ?_
          refine renew [(4, (.int .i64 0))] rfl ?_
          rintro s h4
          refine .nsq ?_
          refine .ret ?_
          have hr := Option.some.inj h
          subst hr
          exact rrA (res_tmp h4) rfl
end
def e78 (F : Nat) : Ent := ⟨78, dn2 (cmp_Compare_int F) (fun (r : Int) => (Enc.enc (r : Int))), 0, false⟩
theorem o78 {D : Den} {σ : Sig} {F : Nat} (hF : Fits2 Try.prog D σ) (H : H78 D σ F) : (e78 F).Ok Try.prog := by
  refine ⟨fun args r h => ?_, ⟨Try.f78, Try.func78, rfl, rfl⟩⟩
  obtain ⟨x0, x1, y, rfl, hy, rfl⟩ := dn2_open h
  exact contract_run hF (by kernel_rfl) Try.func78 rfl c78 (show 2 ≤ Try.f78.ntmps by decide) (t78 H x0 x1 _ ⟨rfl, rfl⟩ hy)
/- slices.Compare[[]int,int] -/
def A61_5 : AC := (AC.cond (O.t 19) (AC.seq (AC.reg [] [(I.mk (some 4) none false (X.v (A.mov (O.k (V.int IntKind.i64 (Int.ofNat 1))))))] []) AC.ret) AC.skip)
def A61_9 : AC := (AC.cond (O.t 28) (AC.seq (AC.reg [] [(I.mk (some 29) none false (X.v (A.mov (O.t 8)))), (I.mk (some 4) none false (X.v (A.mov (O.t 29))))] []) AC.ret) AC.skip)
def A61_8 : AC := (AC.seq (AC.reg [] [(I.mk (some 27) none false (X.v (A.mov (O.t 8)))), (I.mk (some 28) none false (X.v (A.bin BinOp.neq (O.t 27) (O.k (V.int IntKind.i64 (Int.ofNat 0))))))] []) A61_9)
def A61_7 : AC := (AC.seq (AC.reg [] [(I.mk (some 24) none false (X.v (A.mov (O.t 6)))), (I.mk (some 25) none false (X.v (A.mov (O.t 7)))), (I.mk (some 26) none false (X.call (O.k (V.fn 78 [] [])) [(O.t 24), (O.t 25)])), (I.mk (some 8) none false (X.v (A.mov (O.t 26))))] []) A61_8)
def A61_6 : AC := (AC.seq (AC.reg [] [(I.mk (some 20) none false (X.v (A.mov (O.t 1)))), (I.mk (some 21) none false (X.v (A.mov (O.t 5)))), (I.mk (some 22) none false (X.v (A.idx (O.t 20) (O.t 21) 1))), (I.mk (some 23) none false (X.v (A.load Sh.s (O.t 22)))), (I.mk (some 7) none false (X.v (A.mov (O.t 23))))] []) A61_7)
def A61_4 : AC := (AC.seq (AC.seq (AC.reg [] [(I.mk (some 16) none false (X.v (A.mov (O.t 5)))), (I.mk (some 17) none false (X.v (A.mov (O.t 1)))), (I.mk (some 18) none false (X.v (A.len (O.t 17)))), (I.mk (some 19) none false (X.v (A.bin BinOp.geq (O.t 16) (O.t 18))))] []) A61_5) A61_6)
def A61_10 : AC := (AC.reg [] [(I.mk (some 30) none false (X.v (A.bin BinOp.add (O.t 11) (O.k (V.int IntKind.i64 (Int.ofNat 1)))))), (I.mk (some 11) none false (X.v (A.mov (O.t 30))))] [])
def A61_3 : AC := (AC.seq (AC.block 1 (AC.seq (AC.reg [] [(I.mk (some 13) none false (X.v (A.mov (O.t 11)))), (I.mk (some 14) none false (X.v (A.idx (O.t 9) (O.t 11) 1))), (I.mk (some 15) none false (X.v (A.load Sh.s (O.t 14)))), (I.mk (some 5) none false (X.v (A.mov (O.t 13)))), (I.mk (some 6) none false (X.v (A.mov (O.t 15))))] []) A61_4)) A61_10)
def A61_2 : AC := (AC.seq (AC.cond (O.t 12) AC.skip (AC.exit 0)) A61_3)
def A61_1 : AC := (AC.seq (AC.reg [] [(I.mk (some 12) none false (X.v (A.bin BinOp.lss (O.t 11) (O.t 10))))] []) A61_2)
def A61_12 : AC := (AC.cond (O.t 35) (AC.seq (AC.reg [] [(I.mk (some 4) none false (X.v (A.mov (O.k (V.int IntKind.i64 (Int.negSucc 0))))))] []) AC.ret) AC.skip)
def A61_13 : AC := (AC.seq (AC.reg [] [(I.mk (some 4) none false (X.v (A.mov (O.k (V.int IntKind.i64 (Int.ofNat 0))))))] []) AC.ret)
def A61_11 : AC := (AC.seq (AC.seq (AC.reg [] [(I.mk (some 31) none false (X.v (A.mov (O.t 0)))), (I.mk (some 32) none false (X.v (A.len (O.t 31)))), (I.mk (some 33) none false (X.v (A.mov (O.t 1)))), (I.mk (some 34) none false (X.v (A.len (O.t 33)))), (I.mk (some 35) none false (X.v (A.bin BinOp.lss (O.t 32) (O.t 34))))] []) A61_12) A61_13)
def A61_15 : AC := (AC.block 0 (AC.loop A61_1))
def A61_14 : AC := (AC.seq (AC.seq (AC.reg [] [(I.mk (some 9) none false (X.v (A.mov (O.t 0)))), (I.mk (some 10) none false (X.v (A.len (O.t 9)))), (I.mk (some 11) none false (X.v (A.mov (O.k (V.int IntKind.i64 (Int.ofNat 0))))))] []) A61_15) A61_11)
def A61 : AC := (AC.seq (AC.reg [] [(I.mk (some 4) none false (X.v (A.mov (O.k (V.int IntKind.i64 (Int.ofNat 0))))))] []) A61_14)
def an61 : List An := []
theorem c61 : cC Try.prog Try.f61.ntmps an61 (Try.f61.body.getD .skip) = some A61 := by rfl
structure H61 (D : Den) (σ : Sig) (F : Nat) : Prop where
  c78 : ∀ x0 x1 r, cmp_Compare_int F x0 x1 = some r → D 78 [Enc.enc x0, Enc.enc x1] = some (Enc.enc (r : Int))
  g78 : σ 78 = some (0, false)
abbrev R61 (r : Int) : (Nat → V) → Prop := RR Try.prog [.tmp 4] 0 false (Enc.enc (r : Int))
section
variable {D : Den} {σ : Sig} {F : Nat} {r : Int}
def slices_Compare_l1 (F : Nat) (s1_1 : (List Int)) (s2_2 : (List Int))  : Nat → Int → Option Int
  | 0, _ => none
  | k + 1, t11_6 =>
    bif decide (t11_6 < (s1_1.length : Int)) then
      (idx s1_1 t11_6).bind fun e_10 =>
      bif decide (t11_6 ≥ (s2_2.length : Int)) then
        some 1
      else
        (idx s2_2 t11_6).bind fun e_11 =>
        (cmp_Compare_int F e_10 e_11).bind fun r_12 =>
        bif (r_12 != 0) then
          some r_12
        else
          (slices_Compare_l1 F s1_1 s2_2 k) (w64 (t11_6 + 1))
    else
      bif decide ((s1_1.length : Int) < (s2_2.length : Int)) then
        some (-1)
      else
        some 0
theorem t_f61_l1 (H : H61 D σ F) (s1_1 : (List Int)) (s2_2 : (List Int))  : ∀ (k : Nat) (t11_6 : Int) (s : Nat → V), Facts [(0, (Enc.enc (s1_1 : List Int))), (1, (Enc.enc (s2_2 : List Int))), (4, (.int .i64 0)), (9, (Enc.enc (s1_1 : List Int))), (10, (.int .i64 (s1_1.length : Int))), (11, (.int .i64 t11_6))] s → slices_Compare_l1 F s1_1 s2_2 k t11_6 = some r → Run D σ (R61 r) (.run A61_1 [.lp A61_1, .bk 0, .sq A61_11]) s := by
  intro k
  induction k with
  | zero => intro t11_6 s _ h; exact nomatch (h : (none : Option _) = some r)
  | succ k ih =>
    intro t11_6 s hs h
    rw [slices_Compare_l1] at h
    obtain ⟨h0, h1, h4, h9, h10, h11⟩ := hs
    refine .seq ?_
    refine run_reg ?_
    refine e_end ?_
    refine g_v2 (t1 := 11) (t2 := 10) (u1 := (.int .i64 t11_6)) (u2 := (.int .i64 (s1_1.length : Int))) (.bool (decide (t11_6 < (s1_1.length : Int)))) h11 h10 rfl rfl ?_
    refine g_end ?_
    refine e_end ?_
    refine renew [(0, (Enc.enc (s1_1 : List Int))), (1, (Enc.enc (s2_2 : List Int))), (4, (.int .i64 0)), (9, (Enc.enc (s1_1 : List Int))), (10, (.int .i64 (s1_1.length : Int))), (11, (.int .i64 t11_6)), (12, (.bool (decide (t11_6 < (s1_1.length : Int)))))] ⟨h0, h1, h4, h9, h10, h11, rfl⟩ ?_
    rintro s ⟨h0, h1, h4, h9, h10, h11, h12⟩
    refine .nsq ?_
    refine .seq ?_
    refine run_cond (t := decide (t11_6 < (s1_1.length : Int))) h12 h (fun h => ?_) (fun h => ?_)
    · refine .skip ?_
      refine .nsq ?_
      refine .seq ?_
      refine .block ?_
      refine .seq ?_
      refine run_reg ?_
      refine e_end ?_
      refine g_v1 (t := 11) (u := (.int .i64 t11_6)) (.int .i64 t11_6) h11 rfl rfl ?_
      obtain ⟨e_10, E_e_10, h⟩ := bind_some h
      refine g_v (.ref .sh 0 [] (.int .i64 e_10)) (ev_idx (t := .sh) (lo := 0) (xs := s1_1) h9 h11 E_e_10 rfl rfl) ?_
      refine g_v1 (t := 14) (u := (.ref .sh 0 [] (.int .i64 e_10))) (.int .i64 e_10) rfl rfl rfl ?_
      refine g_v1 (t := 13) (u := (.int .i64 t11_6)) (.int .i64 t11_6) rfl rfl rfl ?_
      refine g_v1 (t := 15) (u := (.int .i64 e_10)) (.int .i64 e_10) rfl rfl rfl ?_
      refine g_end ?_
      refine e_end ?_
      refine renew [(0, (Enc.enc (s1_1 : List Int))), (1, (Enc.enc (s2_2 : List Int))), (4, (.int .i64 0)), (5, (.int .i64 t11_6)), (6, (.int .i64 e_10)), (9, (Enc.enc (s1_1 : List Int))), (10, (.int .i64 (s1_1.length : Int))), (11, (.int .i64 t11_6))] ⟨h0, h1, h4, rfl, rfl, h9, h10, h11⟩ ?_
      rintro s ⟨h0, h1, h4, h5, h6, h9, h10, h11⟩
      refine .nsq ?_
      refine .seq ?_
      refine .seq ?_
      refine run_reg ?_
      refine e_end ?_
      refine g_v1 (t := 5) (u := (.int .i64 t11_6)) (.int .i64 t11_6) h5 rfl rfl ?_
      refine g_v1 (t := 1) (u := (Enc.enc (s2_2 : List Int))) (Enc.enc (s2_2 : List Int)) h1 rfl rfl ?_
      refine g_v (.int .i64 (s2_2.length : Int)) (ev_len (xs := s2_2) rfl) ?_
      refine g_v2 (t1 := 16) (t2 := 18) (u1 := (.int .i64 t11_6)) (u2 := (.int .i64 (s2_2.length : Int))) (.bool (decide (t11_6 ≥ (s2_2.length : Int)))) rfl rfl rfl rfl ?_
      refine g_end ?_
      refine e_end ?_
      refine renew [(0, (Enc.enc (s1_1 : List Int))), (1, (Enc.enc (s2_2 : List Int))), (4, (.int .i64 0)), (5, (.int .i64 t11_6)), (6, (.int .i64 e_10)), (9, (Enc.enc (s1_1 : List Int))), (10, (.int .i64 (s1_1.length : Int))), (11, (.int .i64 t11_6)), (19, (.bool (decide (t11_6 ≥ (s2_2.length : Int)))))] ⟨h0, h1, h4, h5, h6, h9, h10, h11, rfl⟩ ?_
      rintro s ⟨h0, h1, h4, h5, h6, h9, h10, h11, h19⟩
      refine .nsq ?_
      refine run_cond (t := decide (t11_6 ≥ (s2_2.length : Int))) h19 h (fun h => ?_) (fun h => ?_)
      · refine .seq ?_
        refine run_reg ?_
        refine e_end ?_
        refine g_v0 (.int .i64 1) rfl rfl ?_
        refine g_end ?_
        refine e_end ?_
        refine renew [(0, (Enc.enc (s1_1 : List Int))), (1, (Enc.enc (s2_2 : List Int))), (4, (.int .i64 1)), (5, (.int .i64 t11_6)), (6, (.int .i64 e_10)), (9, (Enc.enc (s1_1 : List Int))), (10, (.int .i64 (s1_1.length : Int))), (11, (.int .i64 t11_6))] ⟨h0, h1, rfl, h5, h6, h9, h10, h11⟩ ?_
        rintro s ⟨h0, h1, h4, h5, h6, h9, h10, h11⟩
        refine .nsq ?_
        refine .ret ?_
        have hr := Option.some.inj h
        subst hr
        exact rrA (res_tmp h4) rfl
      · refine .skip ?_
        refine .nsq ?_
        refine .seq ?_
        refine run_reg ?_
        refine e_end ?_
        refine g_v1 (t := 1) (u := (Enc.enc (s2_2 : List Int))) (Enc.enc (s2_2 : List Int)) h1 rfl rfl ?_
        refine g_v1 (t := 5) (u := (.int .i64 t11_6)) (.int .i64 t11_6) h5 rfl rfl ?_
        obtain ⟨e_11, E_e_11, h⟩ := bind_some h
        refine g_v (.ref .sh 0 [] (.int .i64 e_11)) (ev_idx (t := .sh) (lo := 0) (xs := s2_2) rfl rfl E_e_11 rfl rfl) ?_
        refine g_v1 (t := 22) (u := (.ref .sh 0 [] (.int .i64 e_11))) (.int .i64 e_11) rfl rfl rfl ?_
        refine g_v1 (t := 23) (u := (.int .i64 e_11)) (.int .i64 e_11) rfl rfl rfl ?_
        refine g_end ?_
        refine e_end ?_
        refine renew [(0, (Enc.enc (s1_1 : List Int))), (1, (Enc.enc (s2_2 : List Int))), (4, (.int .i64 0)), (6, (.int .i64 e_10)), (7, (.int .i64 e_11)), (9, (Enc.enc (s1_1 : List Int))), (10, (.int .i64 (s1_1.length : Int))), (11, (.int .i64 t11_6))] ⟨h0, h1, h4, h6, rfl, h9, h10, h11⟩ ?_
        rintro s ⟨h0, h1, h4, h6, h7, h9, h10, h11⟩
        refine .nsq ?_
        refine .seq ?_
        refine run_reg ?_
        refine e_end ?_
        refine g_v1 (t := 6) (u := (.int .i64 e_10)) (.int .i64 e_10) h6 rfl rfl ?_
        refine g_v1 (t := 7) (u := (.int .i64 e_11)) (.int .i64 e_11) h7 rfl rfl ?_
        obtain ⟨r_12, E_r_12, h⟩ := bind_some h
        refine g_call (m := 0) (al := false) (r := (Enc.enc (r_12 : Int))) [Enc.enc (e_10 : Int), Enc.enc (e_11 : Int)] (ta_cons (v := (.int .i64 e_10)) rfl rfl rfl (ta_cons (v := (.int .i64 e_11)) rfl rfl rfl ta_nil)) (H.c78 _ _ _ E_r_12) H.g78 rfl rfl rfl rfl ?_
        refine g_v1 (t := 26) (u := (.int .i64 r_12)) (.int .i64 r_12) rfl rfl rfl ?_
        refine g_end ?_
        refine e_end ?_
        refine renew [(0, (Enc.enc (s1_1 : List Int))), (1, (Enc.enc (s2_2 : List Int))), (4, (.int .i64 0)), (8, (.int .i64 r_12)), (9, (Enc.enc (s1_1 : List Int))), (10, (.int .i64 (s1_1.length : Int))), (11, (.int .i64 t11_6))] ⟨h0, h1, h4, rfl, h9, h10, h11⟩ ?_
        rintro s ⟨h0, h1, h4, h8, h9, h10, h11⟩
        refine .nsq ?_
        refine .seq ?_
        refine run_reg ?_
        refine e_end ?_
        refine g_v1 (t := 8) (u := (.int .i64 r_12)) (.int .i64 r_12) h8 rfl rfl ?_
        refine g_v1 (t := 27) (u := (.int .i64 r_12)) (.bool (r_12 != 0)) rfl rfl rfl ?_
        refine g_end ?_
        refine e_end ?_
        refine renew [(0, (Enc.enc (s1_1 : List Int))), (1, (Enc.enc (s2_2 : List Int))), (4, (.int .i64 0)), (8, (.int .i64 r_12)), (9, (Enc.enc (s1_1 : List Int))), (10, (.int .i64 (s1_1.length : Int))), (11, (.int .i64 t11_6)), (28, (.bool (r_12 != 0)))] ⟨h0, h1, h4, h8, h9, h10, h11, rfl⟩ ?_
        rintro s ⟨h0, h1, h4, h8, h9, h10, h11, h28⟩
        refine .nsq ?_
        refine run_cond (t := (r_12 != 0)) h28 h (fun h => ?_) (fun h => ?_)
        · refine .seq ?_
          refine run_reg ?_
          refine e_end ?_
          refine g_v1 (t := 8) (u := (.int .i64 r_12)) (.int .i64 r_12) h8 rfl rfl ?_
          refine g_v1 (t := 29) (u := (.int .i64 r_12)) (.int .i64 r_12) rfl rfl rfl ?_
          refine g_end ?_
          refine e_end ?_
          refine renew [(0, (Enc.enc (s1_1 : List Int))), (1, (Enc.enc (s2_2 : List Int))), (4, (.int .i64 r_12)), (9, (Enc.enc (s1_1 : List Int))), (10, (.int .i64 (s1_1.length : Int))), (11, (.int .i64 t11_6))] ⟨h0, h1, rfl, h9, h10, h11⟩ ?_
          rintro s ⟨h0, h1, h4, h9, h10, h11⟩
          refine .nsq ?_
          refine .ret ?_
          have hr := Option.some.inj h
          subst hr
          exact rrA (res_tmp h4) rfl
        · refine .skip ?_
          refine .nbk ?_
          refine .nsq ?_
          refine run_reg ?_
          refine e_end ?_
          refine g_v1 (t := 11) (u := (.int .i64 t11_6)) (.int .i64 (w64 (t11_6 + 1))) h11 rfl rfl ?_
          refine g_v1 (t := 30) (u := (.int .i64 (w64 (t11_6 + 1)))) (.int .i64 (w64 (t11_6 + 1))) rfl rfl rfl ?_
          refine g_end ?_
          refine e_end ?_
          refine renew [(0, (Enc.enc (s1_1 : List Int))), (1, (Enc.enc (s2_2 : List Int))), (4, (.int .i64 0)), (9, (Enc.enc (s1_1 : List Int))), (10, (.int .i64 (s1_1.length : Int))), (11, (.int .i64 (w64 (t11_6 + 1))))] ⟨h0, h1, h4, h9, h10, rfl⟩ ?_
          rintro s ⟨h0, h1, h4, h9, h10, h11⟩
          refine .nlp ?_
          exact ih (w64 (t11_6 + 1)) _ ⟨h0, h1, h4, h9, h10, h11⟩ h
    · refine .exit ?_
      refine .esq ?_
      refine .elp ?_
      refine .ebk ?_
      refine .nsq ?_
      refine .seq ?_
      refine .seq ?_
      refine run_reg ?_
      refine e_end ?_
      refine g_v1 (t := 0) (u := (Enc.enc (s1_1 : List Int))) (Enc.enc (s1_1 : List Int)) h0 rfl rfl ?_
      refine g_v (.int .i64 (s1_1.length : Int)) (ev_len (xs := s1_1) rfl) ?_
      refine g_v1 (t := 1) (u := (Enc.enc (s2_2 : List Int))) (Enc.enc (s2_2 : List Int)) h1 rfl rfl ?_
      refine g_v (.int .i64 (s2_2.length : Int)) (ev_len (xs := s2_2) rfl) ?_
      refine g_v2 (t1 := 32) (t2 := 34) (u1 := (.int .i64 (s1_1.length : Int))) (u2 := (.int .i64 (s2_2.length : Int))) (.bool (decide ((s1_1.length : Int) < (s2_2.length : Int)))) rfl rfl rfl rfl ?_
      refine g_end ?_
      refine e_end ?_
      refine renew [(4, (.int .i64 0)), (35, (.bool (decide ((s1_1.length : Int) < (s2_2.length : Int)))))] ⟨h4, rfl⟩ ?_
      rintro s ⟨h4, h35⟩
      refine .nsq ?_
      refine run_cond (t := decide ((s1_1.length : Int) < (s2_2.length : Int))) h35 h (fun h => ?_) (fun h => ?_)
      · refine .seq ?_
        refine run_reg ?_
        refine e_end ?_
        refine g_v0 (.int .i64 (-1)) rfl rfl ?_
        refine g_end ?_
        refine e_end ?_
        refine renew [(4, (.int .i64 (-1)))] rfl ?_
        rintro s h4
        refine .nsq ?_
        refine .ret ?_
        have hr := Option.some.inj h
        subst hr
        exact rrA (res_tmp h4) rfl
      · refine .skip ?_
        refine .nsq ?_
        refine .seq ?_
        refine run_reg ?_
        refine e_end ?_
        refine g_v0 (.int .i64 0) rfl rfl ?_
        refine g_end ?_
        refine e_end ?_
        refine renew [(4, (.int .i64 0))] rfl ?_
        rintro s h4
        refine .nsq ?_
        refine .ret ?_
        have hr := Option.some.inj h
        subst hr
        exact rrA (res_tmp h4) rfl
def slices_Compare (F : Nat) (s1_1 : (List Int)) (s2_2 : (List Int)) : Option Int :=
  slices_Compare_l1 F s1_1 s2_2 F 0
theorem t61 (H : H61 D σ F) (s1_1 : (List Int)) (s2_2 : (List Int)) (s : Nat → V) (hs : Facts [(0, (Enc.enc (s1_1 : List Int))), (1, (Enc.enc (s2_2 : List Int)))] s) (h : slices_Compare F s1_1 s2_2 = some r) : Run D σ (R61 r) (.run A61 []) s := by
  unfold slices_Compare at h
  obtain ⟨h0, h1⟩ := hs
  refine .seq ?_
  refine run_reg ?_
  refine e_end ?_
  refine g_v0 (.int .i64 0) rfl rfl ?_
  refine g_end ?_
  refine e_end ?_
  refine renew [(0, (Enc.enc (s1_1 : List Int))), (1, (Enc.enc (s2_2 : List Int))), (4, (.int .i64 0))] ⟨h0, h1, rfl⟩ ?_
  rintro s ⟨h0, h1, h4⟩
  refine .nsq ?_
  refine .seq ?_
  refine .seq ?_
  refine run_reg ?_
  refine e_end ?_
  refine g_v1 (t := 0) (u := (Enc.enc (s1_1 : List Int))) (Enc.enc (s1_1 : List Int)) h0 rfl rfl ?_
  refine g_v (.int .i64 (s1_1.length : Int)) (ev_len (xs := s1_1) rfl) ?_
  refine g_v0 (.int .i64 0) rfl rfl ?_
  refine g_end ?_
  refine e_end ?_
  refine renew [(0, (Enc.enc (s1_1 : List Int))), (1, (Enc.enc (s2_2 : List Int))), (4, (.int .i64 0)), (9, (Enc.enc (s1_1 : List Int))), (10, (.int .i64 (s1_1.length : Int))), (11, (.int .i64 0))] ⟨h0, h1, h4, rfl, rfl, rfl⟩ ?_
  rintro s ⟨h0, h1, h4, h9, h10, h11⟩
  refine .nsq ?_
  refine .block ?_
  refine .loop ?_
  exact t_f61_l1 H s1_1 s2_2 F 0 _ ⟨h0, h1, h4, h9, h10, h11⟩ h
end
def e61 (F : Nat) : Ent := ⟨61, dn2 (slices_Compare F) (fun (r : Int) => (Enc.enc (r : Int))), 0, false⟩
theorem o61 {D : Den} {σ : Sig} {F : Nat} (hF : Fits2 Try.prog D σ) (H : H61 D σ F) : (e61 F).Ok Try.prog := by
  refine ⟨fun args r h => ?_, ⟨Try.f61, Try.func61, rfl, rfl⟩⟩
  obtain ⟨x0, x1, y, rfl, hy, rfl⟩ := dn2_open h
  exact contract_run hF (by kernel_rfl) Try.func61 rfl c61 (show 2 ≤ Try.f61.ntmps by decide) (t61 H x0 x1 _ ⟨rfl, rfl⟩ hy)
end Go.Zq
