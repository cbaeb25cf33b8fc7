/- Functions of the program, typed (part 5). No further condition. -/
import Derived.Test.YtelahampjnaimaeG4
set_option linter.unusedVariables false
set_option linter.unusedSimpArgs false
namespace Go.Zq
open Go.Proofs Go.Shelf Enc
variable {D:Den} {σ:Sig} {F:Nat}
def zm7:AC:=(.seq (.reg [.clr [5]] [jv 3 (.fld (.t 1) 0 0),jv 4 (.load .p (.t 3)),jx 5 (.callO (jf 88) [.t 4]),jv 6 (.bld (.agg [.sl .nl .s 0 []]) [(0,0,.t 5)]),jz (.store (.ag [.p]) (.t 2) (.t 6))] []) .ret)
def zqR:AC:=(.seq (.reg [.clr [1,2]] [jx 1 (.box (.t 0)),jx 2 (.alloc (.agg [.sl .nl .s 0 []]))] []) zm7)
def zrT:List An:=[⟨0,[.clr [1,2]],[],[],[]⟩,⟨1,[.clr [5]],[],[1002],[]⟩]
theorem c82o:cq Tp Try.f82 zrT=some zqR:=by kernel_rfl
structure ztk (D:Den) (σ:Sig) (F:Nat):Prop where
 c88o:∀ (x0:LI) r,Zb F x0=some r→D 1000000088 [enc x0]=some (zh .sh (r:NL Int))
 g88o:σ 1000000088=some (1,false)
abbrev zwd (r:(S1 (NL Int))):(Nat→V)→Prop:=RR Tp [.cell 2 59] 1 false (.agg [zh .sh (r.a:NL Int)])
section
variable {r:(S1 (NL Int))}
def ZQ (F:Nat) (x1:(S1 LI)):Option (S1 (NL Int)):=
 (Zb F x1.a).bind fun r2=>
 some (S1.mk r2)
theorem zxf (H:ztk D σ F) (x1:(S1 LI)) (s:Nat→V) (hs:zB [(0,.agg [eL x1.a])] s) (h:ZQ F x1=some r):Run D σ (zwd r) (.run zqR []) s:=by
 unfold ZQ at h
 have h0:=hs
 refine .seq (zC (yc ?_))
 refine ez [(0,_),(1,_),(2,_)] ⟨za h0 rfl (zr (zc me zk)),zg rfl,zg rfl⟩ ?_
 rintro s ⟨h0,h1,h2⟩
 refine xU (.agg [eL x1.a]) (zx h0 rfl) h1 rfl (y6 h2 (gq (.nsq (.seq (zC (yc ?_))))))
 refine ez [(1,_),(2,_),(5,_)] ⟨za rfl rfl (zi rfl (zr (zc me zk))),za rfl rfl (zi rfl (zr (zc rfl zk))),zg rfl⟩ ?_
 rintro s ⟨h1,h2,h5⟩
 refine g1 1 (.ref (.bx 1) 0 [0] (eL x1.a)) h1 fun h3=>g1 3 (eL x1.a) h3 fun h4=>?_
 obtain ⟨r2,Er2,h⟩:=zd h
 refine YO (m:=1) (al:=false) (r:=zh .sh (r2:NL Int)) (v:=oI 5 [] r2) (kk:=1000000088) [eL x1.a] (zl h4 rfl (erase_enc (x1.a:LI)) zJ) (H.c88o _ _ Er2) H.g88o rfl vH uK YP h5 (gv (.agg [oI 5 [] r2]) (zkW rfl) fun h6=>zQ (.agg [oI 5 [] r2]) (zx h2 rfl) (zx h6 rfl) ⟨by decide,by decide,rfl,(by simp [V.shape,V.shapes,zG,Sh.beq,Sh.beqs]),(by simp [V.shape,V.shapes,zG,Sh.beq,Sh.beqs]),(by simp [V.toks,V.tokss,zN])⟩ (gz [(2,.ref (.bx 2) 0 [] (.agg [oI 5 [] r2]))] (zb h2 rfl) ?_))
 rintro s h2
 refine .nsq (.ret ?_)
 obtain rfl:=oi h
 exact rrA (yL h2 (by simp only [V.shape,V.shapes,zG];kernel_rfl)) (Xy (WY (wn (YH (o:=(r2:NL Int))) Yk)) rfl (UT (Zw (vR rfl) WD)))
end
def zo6 (F:Nat):Ent:=ent 1000000082 (fun (x:((S1 LI)×Unit))=>ZQ F x.1) (fun (r:(S1 (NL Int)))=>(.agg [zh .sh (r.a:NL Int)])) 1 false []
abbrev zrl (D:List V→Option V) (F:Nat):Prop:=∀ (x0:(S1 LI)) r,ZQ F x0=some r→D [enc x0]=some (.agg [zh .sh (r.a:NL Int)])
theorem zv0 {F:Nat}:zrl (zo6 F).den F:=fun x0 _ h=>zZ (x0,()) h
theorem zwY (hF:zH Tp D σ) (H:ztk D σ F):(zo6 F).Ok Tp:=okZ (f:=82) Try.func82 fun ⟨x0,_⟩ y hy=>cR hF Try.func82 c82o (zxf H x0 _ rfl hy)
def zpr:AC:=(rr [jv 40 (.fld (.t 5) 0 0),jv 41 (.load .p (.t 40)),jm 42 11,jv 43 (.idx (.t 41) (.t 42) 1),jl 44 43,jm 45 9,jm 46 11,jv 47 (.bin .shl (jn 1) (.t 46)),jv 48 (.bin .andNot (.t 45) (.t 47)),jv 49 (.bin .or (.t 44) (.t 48)),jv 50 (.idx (.t 41) (.t 42) 1),jz (.store .s (.t 50) (.t 49))])
def zpi:AC:=(rr [jv 51 (.bin .add (.t 36) (jn 1)),jm 36 51])
def zmY:AC:=(.seq (.block 3 (.seq (rr [jv 38 (.idx (.t 34) (.t 36) 1),jl 39 38,jm 11 39]) zpr)) zpi)
def zuj:AC:=(.seq (.cond (.t 37) .skip (.exit 2)) zmY)
def zh3:AC:=(.seq (rr [jv 37 (.bin .lss (.t 36) (.t 35))]) zuj)
def zs5:AC:=(.block 2 (.loop zh3))
def zt3:AC:=(.seq (rr [jm 33 9,jx 34 (.call (jf 31) [.t 33]),jk 35 34,jv 36 (.mov (jn 0))]) zs5)
def ztj:AC:=(.seq (rr [jv 26 (.fld (.t 5) 0 0),jv 27 (.load .p (.t 26)),jm 28 8,jv 29 (.idx (.t 27) (.t 28) 1),jl 30 29,jm 31 6,jv 32 (.bin .and (.t 30) (.t 31)),jm 9 32]) zt3)
def zqx:AC:=(.seq (rr [jm 22 6,jm 23 8,jv 24 (.bin .shl (jn 1) (.t 23)),jv 25 (.bin .andNot (.t 22) (.t 24)),jm 6 25]) ztj)
def zjq:AC:=(rr [jv 52 (.bin .add (.t 18) (jn 1)),jm 18 52])
def zsD:AC:=(.seq (.block 1 (.seq (rr [jv 20 (.idx (.t 16) (.t 18) 1),jl 21 20,jm 8 21]) zqx)) zjq)
def zsX:AC:=(.seq (.cond (.t 19) .skip (.exit 0)) zsD)
def QT:AC:=(.seq (rr [jv 19 (.bin .lss (.t 18) (.t 17))]) zsX)
def zaM:AC:=(.seq (rr [jv 53 (.load (.ag [.p]) (.t 5)),jz (.store (.ag [.p]) (.t 4) (.t 53))]) .ret)
def zoZ:AC:=(.block 0 (.loop QT))
def zoj:AC:=(.seq (.seq (rr [jm 16 1,jk 17 16,jv 18 (.mov (jn 0))]) zoZ) zaM)
def zoh:AC:=(.seq (rr [jv 14 (.load (.ag [.p]) (.t 2)),jx 15 (.call (jf 61) [.t 14]),jm 6 15]) zoj)
def zoL:AC:=(.seq (.reg [.clr [13,5]] [jv 12 (.load (.ag [.p]) (.t 2)),jx 13 (.callO (jf 82) [.t 12]),jx 5 (.alloc (.agg [.sl .nl .s 0 []])),jz (.store (.ag [.p]) (.t 5) (.t 13))] []) zoh)
def A60:AC:=(.seq (.reg [.clr [2,4]] [jx 2 (.box (.t 0)),jx 4 (.alloc (.agg [.sl .nl .s 0 []]))] []) zoL)
def zvK:List An:=[⟨0,[.clr [2,4]],[],[],[]⟩,⟨1,[.clr [13,5]],[],[1001],[]⟩]
theorem c60:cq Tp Try.f60 zvK=some A60:=by kernel_rfl
structure H60 (D:Den) (σ:Sig) (F:Nat):Prop where
 c82o:zrl (D 1000000082) F
 g82o:σ 1000000082=some (1,false)
 c61:C61 (D 61) F
 g61:σ 61=some (0,false)
 c31:C31 (D 31) F
 g31:σ 31=some (0,false)
abbrev R60 (r:(S1 LI)):(Nat→V)→Prop:=RR Tp [.cell 4 59] 0 false (enc (r:(S1 LI)))
section
variable {r:(S1 LI)}
def wS (F:Nat) (x24:Int) (q45:Int) (v46:Int) (x2:LI) (x25:Int) (r47:LI) (c1:(NL Int)→Int→Int→Option (S1 LI)):Nat→(NL Int)→Int→Option (S1 LI)
 | 0,_,_=>none
 | k + 1,x52,x53=>
   bif decide (x53 < (r47.length:Int)) then
    (idx r47 x53).bind fun v58=>
    (idx x52.list v58).bind fun v59=>
    (Uv .i64 1 v58).bind fun q60=>
    (idx x52.list v58).bind fun v61=>
    (wS F x24 q45 v46 x2 x25 r47 c1 k) (NL.set x52 v58.toNat (ior .i64 v59 (yx .i64 (yI .i64 v46 (yx .i64 x24 q45)) q60))) (w64 (x53 + 1))
   else
    c1 x52 (yx .i64 x24 q45) (w64 (x25 + 1))
theorem zi6 (H:H60 D σ F) (x24:Int) (q45:Int) (v46:Int) (x2:LI) (x25:Int) (r47:LI) (c1:(NL Int)→Int→Int→Option (S1 LI)) (Hc1:∀ (x23:(NL Int)) (x24:Int) (x25:Int) (s:Nat→V),zB [(4,.ref (.bx 4) 0 [] (.agg [nI])),(5,.ref (.bx 5) 0 [] (.agg [oI 13 [0] x23])),(6,ji x24),(16,eL x2),(17,ji (x2.length:Int)),(18,ji x25)] s→c1 x23 x24 x25=some r→Run D σ (R60 r) (.run QT [.lp QT,.bk 0,.sq zaM]) s):∀ (k:Nat) (x52:(NL Int)) (x53:Int) (s:Nat→V),zB [(4,.ref (.bx 4) 0 [] (.agg [nI])),(5,.ref (.bx 5) 0 [] (.agg [oI 13 [0] x52])),(6,ji (yx .i64 x24 q45)),(9,ji (yI .i64 v46 (yx .i64 x24 q45))),(16,eL x2),(17,ji (x2.length:Int)),(18,ji x25),(34,eL r47),(35,ji (r47.length:Int)),(36,ji x53)] s→wS F x24 q45 v46 x2 x25 r47 c1 k x52 x53=some r→Run D σ (R60 r) (.run zh3 [.lp zh3,.bk 2,.bk 1,.sq zjq,.lp QT,.bk 0,.sq zaM]) s:=by
 intro k
 induction k with
 | zero=>intro x52 x53 s _ h;exact nm h
 | succ k ih=>
   intro x52 x53 s hs h
   rw [wS] at h
   obtain ⟨h4,h5,h6,h9,h16,h17,h18,h34,h35,h36⟩:=hs
   refine .seq (rg (g2 36 35 (jb (decide (x53 < (r47.length:Int)))) h36 h35 fun h37=>gq (.nsq (.seq (zu h37 h (fun h=>?_) (fun h=>?_))))))
   · refine .skip (.nsq (.seq (.block (.seq (rg ?_)))))
     obtain ⟨v58,Ev58,h⟩:=zd h
     refine gv (.ref .sh 0 [] (ji v58)) (yG (t:=.sh) (lo:=0) (xs:=r47) h34 h36 Ev58 rfl rfl) fun h38=>g1 38 (ji v58) h38 fun h39=>gm h39 fun h11=>gz [(4,_),(5,_),(6,_),(9,_),(11,_),(16,_),(17,_),(18,_),(34,_),(35,_),(36,_)] ⟨h4,h5,h6,h9,h11,h16,h17,h18,h34,h35,h36⟩ ?_
     rintro s ⟨h4,h5,h6,h9,h11,h16,h17,h18,h34,h35,h36⟩
     refine .nsq (rg (g1 5 (.ref (.bx 5) 0 [0] (oI 13 [0] x52)) h5 fun h40=>gv (oI 13 [0] x52) (xm h40 w7) fun h41=>gm h11 fun h42=>?_))
     obtain ⟨v59,Ev59,h⟩:=zd h
     refine gv (.ref (.at 13 [0]) v58.toNat [] (ji v59)) (vi (o:=x52) h41 h42 Ev59 rfl) fun h43=>g1 43 (ji v59) h43 fun h44=>gm h9 fun h45=>gm h11 fun h46=>?_
     obtain ⟨q60,Eq60,h⟩:=zd h
     refine gv (ji q60) (Y1 rfl h46 Eq60) fun h47=>g2 45 47 (ji (yx .i64 (yI .i64 v46 (yx .i64 x24 q45)) q60)) h45 h47 fun h48=>g2 44 48 (ji (ior .i64 v59 (yx .i64 (yI .i64 v46 (yx .i64 x24 q45)) q60))) h44 h48 fun h49=>?_
     obtain ⟨v61,Ev61,h⟩:=zd h
     refine gv (.ref (.at 13 [0]) v58.toNat [] (ji v61)) (vi (o:=x52) h41 h42 Ev61 rfl) fun h50=>zQ (ji (ior .i64 v59 (yx .i64 (yI .i64 v46 (yx .i64 x24 q45)) q60))) (zx h50 rfl) (zx h49 rfl) (xr (by first | rfl | simp [V.toks,V.tokss,toks_enc,zN])) ?_
     refine gz [(4,.ref (.bx 4) 0 [] (.agg [nI])),(5,.ref (.bx 5) 0 [] (.agg [oI 13 [0] (NL.set x52 v58.toNat (ior .i64 v59 (yx .i64 (yI .i64 v46 (yx .i64 x24 q45)) q60)))])),(6,ji (yx .i64 x24 q45)),(9,ji (yI .i64 v46 (yx .i64 x24 q45))),(16,eL x2),(17,ji (x2.length:Int)),(18,ji x25),(34,eL r47),(35,ji (r47.length:Int)),(36,ji x53)] ⟨zb h4 (zj rfl rfl (zK (zf rfl rfl))),zb h5 (zj rfl rfl (zK (zf (Lv (α:=Int) (u:=ior .i64 v59 (yx .i64 (yI .i64 v46 (yx .i64 x24 q45)) q60)) (i:=v58.toNat) (o:=x52)) rfl))),zb h6 rfl,zb h9 rfl,zb h16 uE,zb h17 rfl,zb h18 rfl,zb h34 uE,zb h35 rfl,zb h36 rfl⟩ ?_
     rintro s ⟨h4,h5,h6,h9,h16,h17,h18,h34,h35,h36⟩
     refine .nbk (.nsq (rg (g1 36 (ji (w64 (x53 + 1))) h36 fun h51=>gm h51 fun h36=>gq (.nlp ?_))))
     exact ih (NL.set x52 v58.toNat (ior .i64 v59 (yx .i64 (yI .i64 v46 (yx .i64 x24 q45)) q60))) (w64 (x53 + 1)) _ ⟨h4,h5,h6,h9,h16,h17,h18,h34,h35,h36⟩ h
   refine .exit (.esq (.elp (.ebk (.nbk (.nsq (rg (g1 18 (ji (w64 (x25 + 1))) h18 fun h52=>gm h52 fun h18=>gq (.nlp ?_))))))))
   exact Hc1 x52 (yx .i64 x24 q45) (w64 (x25 + 1)) _ ⟨h4,h5,h6,h16,h17,h18⟩ h
def wt (F:Nat) (x2:LI) :Nat→(NL Int)→Int→Int→Option (S1 LI)
 | 0,_,_,_=>none
 | k + 1,x23,x24,x25=>
   bif decide (x25 < (x2.length:Int)) then
    (idx x2 x25).bind fun v44=>
    (Uv .i64 1 v44).bind fun q45=>
    (idx x23.list v44).bind fun v46=>
    (Xp F (yI .i64 v46 (yx .i64 x24 q45))).bind fun r47=>
    wS F x24 q45 v46 x2 x25 r47 (wt F x2 k) F x23 0
   else
    some (S1.mk x23.list)
theorem zht (H:H60 D σ F) (x2:LI) :∀ (k:Nat) (x23:(NL Int)) (x24:Int) (x25:Int) (s:Nat→V),zB [(4,.ref (.bx 4) 0 [] (.agg [nI])),(5,.ref (.bx 5) 0 [] (.agg [oI 13 [0] x23])),(6,ji x24),(16,eL x2),(17,ji (x2.length:Int)),(18,ji x25)] s→wt F x2 k x23 x24 x25=some r→Run D σ (R60 r) (.run QT [.lp QT,.bk 0,.sq zaM]) s:=by
 intro k
 induction k with
 | zero=>intro x23 x24 x25 s _ h;exact nm h
 | succ k ih=>
   intro x23 x24 x25 s hs h
   rw [wt] at h
   obtain ⟨h4,h5,h6,h16,h17,h18⟩:=hs
   refine .seq (rg (g2 18 17 (jb (decide (x25 < (x2.length:Int)))) h18 h17 fun h19=>gq (.nsq (.seq (zu h19 h (fun h=>?_) (fun h=>?_))))))
   · refine .skip (.nsq (.seq (.block (.seq (rg ?_)))))
     obtain ⟨v44,Ev44,h⟩:=zd h
     refine gv (.ref .sh 0 [] (ji v44)) (yG (t:=.sh) (lo:=0) (xs:=x2) h16 h18 Ev44 rfl rfl) fun h20=>g1 20 (ji v44) h20 fun h21=>gm h21 fun h8=>gq (.nsq (.seq (rg (gm h6 fun h22=>gm h8 fun h23=>?_))))
     obtain ⟨q45,Eq45,h⟩:=zd h
     refine gv (ji q45) (Y1 rfl h23 Eq45) fun h24=>g2 22 24 (ji (yx .i64 x24 q45)) h22 h24 fun h25=>gm h25 fun h6=>gq (.nsq (.seq (rg (g1 5 (.ref (.bx 5) 0 [0] (oI 13 [0] x23)) h5 fun h26=>gv (oI 13 [0] x23) (xm h26 w7) fun h27=>gm h8 fun h28=>?_))))
     obtain ⟨v46,Ev46,h⟩:=zd h
     refine gv (.ref (.at 13 [0]) v44.toNat [] (ji v46)) (vi (o:=x23) h27 h28 Ev46 rfl) fun h29=>g1 29 (ji v46) h29 fun h30=>gm h6 fun h31=>g2 30 31 (ji (yI .i64 v46 (yx .i64 x24 q45))) h30 h31 fun h32=>gm h32 fun h9=>gq (.nsq (.seq (rg (gm h9 fun h33=>?_))))
     obtain ⟨r47,Er47,h⟩:=zd h
     refine gcF [enc (yI .i64 v46 (yx .i64 x24 q45):Int)] (zl h33 rfl rfl zJ) (H.c31 _ _ Er47) H.g31 (gl r47 rfl fun h35=>g0 (ji 0) fun h36=>gq (.nsq (.block (.loop ?_))))
     exact zi6 H x24 q45 v46 x2 x25 r47 (wt F x2 k) ih F x23 0 _ ⟨h4,h5,h6,h9,h16,h17,h18,rfl,h35,h36⟩ h
   refine .exit (.esq (.elp (.ebk (.nsq (.seq (rg (gv (.agg [oI 13 [0] x23]) (xm (c:=.agg [oI 13 [0] x23]) h5 (by simp [V.shape,V.shapes,zG,Sh.beq,Sh.beqs])) fun h53=>zQ (.agg [oI 13 [0] x23]) (zx h4 rfl) (zx h53 rfl) ⟨by decide,by decide,rfl,(by simp [V.shape,V.shapes,zG,Sh.beq,Sh.beqs]),(by simp [V.shape,V.shapes,zG,Sh.beq,Sh.beqs]),(by simp [V.toks,V.tokss,zN])⟩ (gz [(4,.ref (.bx 4) 0 [] (.agg [oI 13 [0] x23]))] (zb h4 rfl) ?_))))))))
   rintro s h4
   refine .nsq (.ret ?_)
   obtain rfl:=oi h
   exact rrA (yL h4 (by simp only [V.shape,V.shapes,zG];kernel_rfl)) (Yx (uB (zW (xk (o:=x23)) xg)) (UT (Zw (vR rfl) WD)))
def uS (F:Nat) (x1:(S1 LI)) (x2:LI):Option (S1 LI):=
 (ZQ F x1).bind fun r3=>
 (vn F x1).bind fun r4=>
 wt F x2 F r3.a r4 0
theorem t60 (H:H60 D σ F) (x1:(S1 LI)) (x2:LI) (s:Nat→V) (hs:zB [(0,.agg [eL x1.a]),(1,eL x2)] s) (h:uS F x1 x2=some r):Run D σ (R60 r) (.run A60 []) s:=by
 unfold uS at h
 obtain ⟨h0,h1⟩:=hs
 refine .seq (zC (yc ?_))
 refine ez [(0,_),(1,_),(2,_),(4,_)] ⟨za h0 rfl (zr (zc me zk)),za h1 rfl me,zg rfl,zg rfl⟩ ?_
 rintro s ⟨h0,h1,h2,h4⟩
 refine xU (.agg [eL x1.a]) (zx h0 rfl) h2 rfl (y6 h4 (gq (.nsq (.seq (zC (yc ?_))))))
 refine ez [(1,_),(2,_),(4,_),(5,_),(13,_)] ⟨za h1 rfl me,za rfl rfl (zi rfl (zr (zc me zk))),za rfl rfl (zi rfl (zr (zc rfl zk))),zg rfl,zg rfl⟩ ?_
 rintro s ⟨h1,h2,h4,h5,h13⟩
 refine g1 2 (.agg [eL x1.a]) h2 fun h12=>?_
 obtain ⟨r3,Er3,h⟩:=zd h
 refine YO (m:=1) (al:=false) (r:=.agg [zh .sh (r3.a:NL Int)]) (v:=.agg [oI 13 [0] r3.a]) (kk:=1000000082) [enc (x1:(S1 LI))] (zl h12 rfl (erase_enc (x1:(S1 LI))) zJ) (H.c82o _ _ Er3) H.g82o rfl (WR (yh vH yz)) (Jr (vm uK We)) rfl h13 (y6 h5 (zQ (.agg [oI 13 [0] r3.a]) (zx rfl rfl) (zx rfl rfl) ⟨by decide,by decide,rfl,(by simp [V.shape,V.shapes,zG,Sh.beq,Sh.beqs]),(by simp [V.shape,V.shapes,zG,Sh.beq,Sh.beqs]),(by simp [V.toks,V.tokss,zN])⟩ ?_))
 refine gz [(1,eL x2),(2,.ref (.bx 2) 0 [] (.agg [eL x1.a])),(4,.ref (.bx 4) 0 [] (.agg [nI])),(5,.ref (.bx 5) 0 [] (.agg [oI 13 [0] r3.a]))] ⟨zb h1 uE,zb h2 (zj rfl rfl (zK (zf uE rfl))),zb h4 (zj rfl rfl (zK (zf rfl rfl))),zb rfl rfl⟩ ?_
 rintro s ⟨h1,h2,h4,h5⟩
 refine .nsq (.seq (rg (g1 2 (.agg [eL x1.a]) h2 fun h14=>?_)))
 obtain ⟨r4,Er4,h⟩:=zd h
 refine gcF [enc (x1:(S1 LI))] (zl h14 rfl (erase_enc (x1:(S1 LI))) zJ) (H.c61 _ _ Er4) H.g61 (gm (rf (ji r4)) fun h6=>gq (.nsq (.seq (.seq (rg (gm h1 fun h16=>gl x2 h16 fun h17=>g0 (ji 0) fun h18=>gq (.nsq (.block (.loop ?_)))))))))
 exact zht H x2 F r3.a r4 0 _ ⟨h4,h5,h6,h16,h17,h18⟩ h
end
def e60 (F:Nat):Ent:=ent 60 (fun (x:((S1 LI)×LI×Unit))=>uS F x.1 x.2.1) (fun (r:(S1 LI))=>(enc (r:(S1 LI)))) 0 false []
abbrev C60 (D:List V→Option V) (F:Nat):Prop:=∀ (x0:(S1 LI)) (x1:LI) r,uS F x0 x1=some r→D [enc x0,enc x1]=some (enc (r:(S1 LI)))
theorem p60 {F:Nat}:C60 (e60 F).den F:=fun x0 x1 _ h=>zZ (x0,x1,()) h
theorem o60 (hF:zH Tp D σ) (H:H60 D σ F):(e60 F).Ok Tp:=okZ (f:=60) Try.func60 fun ⟨x0,x1,_⟩ y hy=>cR hF Try.func60 c60 (t60 H x0 x1 _ ⟨rfl,rfl⟩ hy)
def ztM:AC:=(.reg [.clr [33,34]] [jm 25 7,jv 26 (.fld (.t 5) 0 0),jv 27 (.load .p (.t 26)),jm 28 9,jv 29 (.idx (.t 27) (.t 28) 1),jl 30 29,jm 31 6,jv 32 (.bin .and (.t 30) (.t 31)),jx 33 (.lit i0 1 [(0,0,.t 32)]),jx 34 (.app .s (.t 25) (.t 33)),jm 7 34] [.home 34 7])
def zpJ:AC:=(.seq (rr [jm 21 6,jm 22 9,jv 23 (.bin .shl (jn 1) (.t 22)),jv 24 (.bin .andNot (.t 21) (.t 23)),jm 6 24]) ztM)
def zsz:AC:=(rr [jv 35 (.bin .add (.t 17) (jn 1)),jm 17 35])
def zur:AC:=(.seq (.block 1 (.seq (rr [jv 19 (.idx (.t 15) (.t 17) 1),jl 20 19,jm 9 20]) zpJ)) zsz)
def zus:AC:=(.seq (.cond (.t 18) .skip (.exit 0)) zur)
def zij:AC:=(.seq (rr [jv 18 (.bin .lss (.t 17) (.t 16))]) zus)
def zmN:AC:=(.seq (.reg [] [jm 36 7,jm 4 36] [.home 7 4]) .ret)
def zpe:AC:=(.block 0 (.loop zij))
def zoJ:AC:=(.seq (.seq (rr [jm 15 1,jk 16 15,jv 17 (.mov (jn 0))]) zpe) zmN)
def zmX:AC:=(.seq (rr [jv 7 (.mov (.k (.sl .nl .s 0 [])))]) zoJ)
def zvo:AC:=(.seq (rr [jv 13 (.load (.ag [.p]) (.t 2)),jx 14 (.call (jf 61) [.t 13]),jm 6 14]) zmX)
def zup:AC:=(.seq (.reg [.clr [5]] [jv 10 (.load (.ag [.p]) (.t 2)),jm 11 1,jx 12 (.call (jf 60) [.t 10,.t 11]),jx 5 (.alloc (.agg [.sl .nl .s 0 []])),jz (.store (.ag [.p]) (.t 5) (.t 12))] []) zvo)
def A30:AC:=(.seq (.reg [.clr [2]] [jx 2 (.box (.t 0)),jv 4 (.mov (.k (.sl .nl .s 0 [])))] []) zup)
def zxy:List An:=[⟨0,[.clr [2]],[],[],[]⟩,⟨1,[.clr [5]],[],[],[]⟩,⟨8,[.clr [33,34]],[],[],[.home 34 7]⟩,⟨10,[],[],[],[.home 7 4]⟩]
theorem c30:cq Tp Try.f30 zxy=some A30:=by kernel_rfl
structure H30 (D:Den) (σ:Sig) (F:Nat):Prop where
 c60:C60 (D 60) F
 g60:σ 60=some (0,false)
 c61:C61 (D 61) F
 g61:σ 61=some (0,false)
abbrev R30 (r:LI):(Nat→V)→Prop:=RR Tp [.tmp 4] 0 false (eL r)
section
variable {r:LI}
def xq (F:Nat) (r3:(S1 LI)) (x2:LI) :Nat→Int→(NL Int)→Int→Option LI
 | 0,_,_,_=>none
 | k + 1,x9,x10,x11=>
   bif decide (x11 < (x2.length:Int)) then
    (idx x2 x11).bind fun v16=>
    (Uv .i64 1 v16).bind fun q17=>
    (idx r3.a v16).bind fun v18=>
    (vh x10.list [yI .i64 v18 (yx .i64 x9 q17)]).bind fun ap19=>
    (xq F r3 x2 k) (yx .i64 x9 q17) (.of ap19) (w64 (x11 + 1))
   else
    some x10.list
theorem zhX (H:H30 D σ F) (r3:(S1 LI)) (x2:LI) :∀ (k:Nat) (x9:Int) (x10:(NL Int)) (x11:Int) (s:Nat→V),zB [(4,nI),(5,.ref (.bx 5) 0 [] (.agg [eL r3.a])),(6,ji x9),(7,oI 7 [] x10),(15,eL x2),(16,ji (x2.length:Int)),(17,ji x11)] s→xq F r3 x2 k x9 x10 x11=some r→Run D σ (R30 r) (.run zij [.lp zij,.bk 0,.sq zmN]) s:=by
 intro k
 induction k with
 | zero=>intro x9 x10 x11 s _ h;exact nm h
 | succ k ih=>
   intro x9 x10 x11 s hs h
   rw [xq] at h
   obtain ⟨h4,h5,h6,h7,h15,h16,h17⟩:=hs
   refine .seq (rg (g2 17 16 (jb (decide (x11 < (x2.length:Int)))) h17 h16 fun h18=>gq (.nsq (.seq (zu h18 h (fun h=>?_) (fun h=>?_))))))
   · refine .skip (.nsq (.seq (.block (.seq (rg ?_)))))
     obtain ⟨v16,Ev16,h⟩:=zd h
     refine gv (.ref .sh 0 [] (ji v16)) (yG (t:=.sh) (lo:=0) (xs:=x2) h15 h17 Ev16 rfl rfl) fun h19=>g1 19 (ji v16) h19 fun h20=>gm h20 fun h9=>gq (.nsq (.seq (rg (gm h6 fun h21=>gm h9 fun h22=>?_))))
     obtain ⟨q17,Eq17,h⟩:=zd h
     refine gv (ji q17) (Y1 rfl h22 Eq17) fun h23=>g2 21 23 (ji (yx .i64 x9 q17)) h21 h23 fun h24=>gm h24 fun h6=>gq (.nsq (zC (yc ?_)))
     refine ez [(4,_),(5,_),(6,_),(7,_),(9,_),(15,_),(16,_),(17,_),(33,_),(34,_)] ⟨za h4 rfl rfl,za h5 rfl (zi rfl (zr (zc me zk))),za h6 rfl mi,za h7 rfl (zm (r:=7) (p:=[]) rfl rfl),za h9 rfl mi,za h15 rfl me,za h16 rfl mi,za h17 rfl mi,zg rfl,zg rfl⟩ ?_
     rintro s ⟨h4,h5,h6,h7,h9,h15,h16,h17,h33,h34⟩
     refine gv (oI 7 [] x10) (Uo h7 YR) fun h25=>g1 5 (.ref (.bx 5) 0 [0] (eL r3.a)) h5 fun h26=>g1 26 (eL r3.a) h26 fun h27=>gm h9 fun h28=>?_
     obtain ⟨v18,Ev18,h⟩:=zd h
     refine gv (.ref .sh 0 [] (ji v18)) (yG (t:=.sh) (lo:=0) (xs:=r3.a) h27 h28 Ev18 rfl rfl) fun h29=>g1 29 (ji v18) h29 fun h30=>gm h6 fun h31=>g2 30 31 (ji (yI .i64 v18 (yx .i64 x9 q17))) h30 h31 fun h32=>xv [(32,ji (yI .i64 v18 (yx .i64 x9 q17)))] [enc (yI .i64 v18 (yx .i64 x9 q17):Int)] h32 rfl rfl h33 ?_
     obtain ⟨ap19,Eap19,h⟩:=zd h
     refine ZG (q:=7) (p:=[]) (o:=(x10:NL Int)) (ys:=([yI .i64 v18 (yx .i64 x9 q17)]:LI)) (t2:=.at 33 []) (lo2:=0) h25 rfl rfl h34 (vK (o:=(x10:NL Int)) Eap19 (by split <;> simp)) (fun s10 ha10=>gm (rf (oI 34 [] (.of ap19))) fun h7=>xf (yR (r:=34) (x:=7) (v:=_) h7 rfl (fun s11 hz11=>?_)))
     refine ez [(4,nI),(5,.ref (.bx 5) 0 [] (.agg [eL r3.a])),(6,ji (yx .i64 x9 q17)),(7,oI 7 [] (.of ap19)),(15,eL x2),(16,ji (x2.length:Int)),(17,ji x11)] ⟨hz11 4 _ nI (show s10 4=nI from zF ha10 h4 rfl) rfl,hz11 5 _ _ (show s10 5=(.ref (.bx 5) 0 [] (.agg [eL r3.a])) from zF ha10 h5 (zi rfl (zr (zc me zk)))) (zi rfl (zr (zc me zk))),hz11 6 _ _ (show s10 6=(ji (yx .i64 x9 q17)) from zF ha10 h6 mi) mi,hz11 7 _ _ h7 (zm (r:=34) (p:=[]) rfl rfl),hz11 15 _ _ (show s10 15=(eL x2) from zF ha10 h15 me) me,hz11 16 _ _ (show s10 16=(ji (x2.length:Int)) from zF ha10 h16 mi) mi,hz11 17 _ _ (show s10 17=(ji x11) from zF ha10 h17 mi) mi⟩ ?_
     rintro s ⟨h4,h5,h6,h7,h15,h16,h17⟩
     refine .nbk (.nsq (rg (g1 17 (ji (w64 (x11 + 1))) h17 fun h35=>gm h35 fun h17=>gq (.nlp ?_))))
     exact ih (yx .i64 x9 q17) (.of ap19) (w64 (x11 + 1)) _ ⟨h4,h5,h6,h7,h15,h16,h17⟩ h
   refine .exit (.esq (.elp (.ebk (.nsq (.seq (rg (gv (oI 7 [] x10) (Uo h7 YR) fun h36=>gv (oI 7 [] x10) (Uo h36 YR) fun h4=>xf (yR (r:=7) (x:=4) (v:=_) h4 YR (fun s12 hz12=>?_)))))))))
   refine ez [(4,oI 4 [] x10)] (hz12 4 _ _ h4 (zm (r:=7) (p:=[]) rfl rfl)) ?_
   rintro s h4
   refine .nsq (.ret ?_)
   obtain rfl:=oi h
   exact rrA (zA h4) (Yx (xk (o:=x10)) (vR rfl))
def xu (F:Nat) (x1:(S1 LI)) (x2:LI):Option LI:=
 (uS F x1 x2).bind fun r3=>
 (vn F x1).bind fun r4=>
 xq F r3 x2 F r4 .nil 0
theorem t30 (H:H30 D σ F) (x1:(S1 LI)) (x2:LI) (s:Nat→V) (hs:zB [(0,.agg [eL x1.a]),(1,eL x2)] s) (h:xu F x1 x2=some r):Run D σ (R30 r) (.run A30 []) s:=by
 unfold xu at h
 obtain ⟨h0,h1⟩:=hs
 refine .seq (zC (yc ?_))
 refine ez [(0,_),(1,_),(2,_)] ⟨za h0 rfl (zr (zc me zk)),za h1 rfl me,zg rfl⟩ ?_
 rintro s ⟨h0,h1,h2⟩
 refine xU (.agg [eL x1.a]) (zx h0 rfl) h2 rfl (g0 nI fun h4=>gq (.nsq (.seq (zC (yc ?_)))))
 refine ez [(1,_),(2,_),(4,_),(5,_)] ⟨za h1 rfl me,za rfl rfl (zi rfl (zr (zc me zk))),za h4 rfl rfl,zg rfl⟩ ?_
 rintro s ⟨h1,h2,h4,h5⟩
 refine g1 2 (.agg [eL x1.a]) h2 fun h10=>gm h1 fun h11=>?_
 obtain ⟨r3,Er3,h⟩:=zd h
 refine gcF [enc (x1:(S1 LI)),eL x2] (zl h10 rfl (erase_enc (x1:(S1 LI))) (zl h11 rfl (erase_enc (x2:LI)) zJ)) (H.c60 _ _ _ Er3) H.g60 (y6 h5 (zQ (.agg [eL r3.a]) (zx rfl rfl) (zx rfl rfl) (xr (by first | rfl | simp [V.toks,V.tokss,toks_enc,zN])) (gz [(1,eL x2),(2,.ref (.bx 2) 0 [] (.agg [eL x1.a])),(4,nI),(5,.ref (.bx 5) 0 [] (.agg [eL r3.a]))] ⟨zb h1 uE,zb h2 (zj rfl rfl (zK (zf uE rfl))),zb h4 rfl,zb rfl rfl⟩ ?_)))
 rintro s ⟨h1,h2,h4,h5⟩
 refine .nsq (.seq (rg (g1 2 (.agg [eL x1.a]) h2 fun h13=>?_)))
 obtain ⟨r4,Er4,h⟩:=zd h
 refine gcF [enc (x1:(S1 LI))] (zl h13 rfl (erase_enc (x1:(S1 LI))) zJ) (H.c61 _ _ Er4) H.g61 (gm (rf (ji r4)) fun h6=>gq (.nsq (.seq (rg (g0 nI fun h7=>gq (.nsq (.seq (.seq (rg (gm h1 fun h15=>gl x2 h15 fun h16=>g0 (ji 0) fun h17=>gq (.nsq (.block (.loop ?_)))))))))))))
 exact zhX H r3 x2 F r4 .nil 0 _ ⟨h4,h5,h6,h7,h15,h16,h17⟩ h
end
def e30 (F:Nat):Ent:=ent 30 (fun (x:((S1 LI)×LI×Unit))=>xu F x.1 x.2.1) (fun (r:LI)=>(eL r)) 0 false []
abbrev C30 (D:List V→Option V) (F:Nat):Prop:=∀ (x0:(S1 LI)) (x1:LI) r,xu F x0 x1=some r→D [enc x0,enc x1]=some (eL r)
theorem p30 {F:Nat}:C30 (e30 F).den F:=fun x0 x1 _ h=>zZ (x0,x1,()) h
theorem o30 (hF:zH Tp D σ) (H:H30 D σ F):(e30 F).Ok Tp:=okZ (f:=30) Try.func30 fun ⟨x0,x1,_⟩ y hy=>cR hF Try.func30 c30 (t30 H x0 x1 _ ⟨rfl,rfl⟩ hy)
def zrh:AC:=(.seq (rr [jl 4 1,jm 5 0,jv 6 (.bin .shr (.t 4) (.t 5)),jv 7 (.bin .and (.t 6) (jn 1)),jv 8 (.bin .eql (.t 7) (jn 1)),jm 3 8]) .ret)
def A33:AC:=(.seq (rr [jv 3 (.mov kf)]) zrh)
def zvI:List An:=[]
theorem c33:cq Tp Try.f33 zvI=some A33:=by kernel_rfl
structure H33 (D:Den) (σ:Sig) (F:Nat):Prop where
 mk ::
abbrev R33 (r:Bool):(Nat→V)→Prop:=RR Tp [.tmp 3] 0 false (enc (r:Bool))
section
variable {r:Bool}
def wx (F:Nat) (x1:Int) (rf_2:(Rf Int)):Option Bool:=
 (Um .i64 rf_2.v x1).bind fun q3=>
 some ((yI .i64 q3 1) == 1)
theorem t33 (H:H33 D σ F) (x1:Int) (rf_2:(Rf Int)) (s:Nat→V) (hs:zB [(0,ji x1),(1,.ref .sh 0 [] (ji rf_2.v))] s) (h:wx F x1 rf_2=some r):Run D σ (R33 r) (.run A33 []) s:=by
 unfold wx at h
 obtain ⟨h0,h1⟩:=hs
 refine .seq (rg (g0 (jb false) fun h3=>gq (.nsq (.seq (rg (g1 1 (ji rf_2.v) h1 fun h4=>gm h0 fun h5=>?_))))))
 obtain ⟨q3,Eq3,h⟩:=zd h
 refine gv (ji q3) (Wi h4 h5 Eq3) fun h6=>g1 6 (ji (yI .i64 q3 1)) h6 fun h7=>g1 7 (jb ((yI .i64 q3 1) == 1)) h7 fun h8=>gm h8 fun h3=>gq (.nsq (.ret ?_))
 obtain rfl:=oi h
 exact rrA (zA h3) rfl
end
def e33 (F:Nat):Ent:=ent 33 (fun (x:(Int×(Rf Int)×Unit))=>wx F x.1 x.2.1) (fun (r:Bool)=>(enc (r:Bool))) 0 false []
abbrev C33 (D:List V→Option V) (F:Nat):Prop:=∀ (x0:Int) (x1:(Rf Int)) r,wx F x0 x1=some r→D [enc x0,Arg.arg x1]=some (enc (r:Bool))
theorem p33 {F:Nat}:C33 (e33 F).den F:=fun x0 x1 _ h=>zZ (x0,x1,()) h
theorem o33 (hF:zH Tp D σ) (H:H33 D σ F):(e33 F).Ok Tp:=okZ (f:=33) Try.func33 fun ⟨x0,x1,_⟩ y hy=>cR hF Try.func33 c33 (t33 H x0 x1 _ ⟨rfl,rfl⟩ hy)
def zkI:AC:=(.cond (.t 16) (.seq (rr [jm 17 5,jm 4 17]) .ret) .skip)
def zk4:AC:=(.seq (rr [jm 11 1,jm 12 0,jm 13 5,jv 14 (.idx (.t 12) (.t 13) 1),jl 15 14,jx 16 (.call (.t 11) [.t 15])]) zkI)
def zk7:AC:=(rr [jv 18 (.bin .add (.t 8) (jn 1)),jm 8 18])
def zlw:AC:=(.seq (.block 1 (.seq (rr [jm 10 8,jm 5 10]) zk4)) zk7)
def zls:AC:=(.seq (.cond (.t 9) .skip (.exit 0)) zlw)
def za9:AC:=(.seq (rr [jv 9 (.bin .lss (.t 8) (.t 7))]) zls)
def zfe:AC:=(.seq (rr [jv 4 (.mov (jn (-1)))]) .ret)
def zkl:AC:=(.block 0 (.loop za9))
def zkK:AC:=(.seq (.seq (rr [jm 6 0,jk 7 6,jv 8 (.mov (jn 0))]) zkl) zfe)
def zmz:AC:=(.seq (rr [jv 4 (.mov (jn 0))]) zkK)
def zns:List An:=[]
theorem c32s2:cq Tp Try.f32 zns=some zmz:=by kernel_rfl
structure zjo (D:Den) (σ:Sig) (F:Nat):Prop where
 c33:C33 (D 33) F
 g33:σ 33=some (0,false)
abbrev zmH (r:Int):(Nat→V)→Prop:=RR Tp [.tmp 4] 0 false (enc (r:Int))
section
variable {r:Int}
def yr (F:Nat) (x1:LI) (x2:(Cl 33 Unit ((Rf Int)×Unit))) :Nat→Int→Option Int
 | 0,_=>none
 | k + 1,x5=>
   bif decide (x5 < (x1.length:Int)) then
    (idx x1 x5).bind fun v8=>
    (wx F v8 x2.env.1).bind fun r9=>
    bif r9 then
     some x5
    else
     (yr F x1 x2 k) (w64 (x5 + 1))
   else
    some (-1)
theorem zdy (H:zjo D σ F) (x1:LI) (x2:(Cl 33 Unit ((Rf Int)×Unit))) :∀ (k:Nat) (x5:Int) (s:Nat→V),zB [(0,eL x1),(1,.fn 33 [] [.ref .sh 0 [] (ji x2.env.1.v)]),(4,ji 0),(7,ji (x1.length:Int)),(8,ji x5)] s→yr F x1 x2 k x5=some r→Run D σ (zmH r) (.run za9 [.lp za9,.bk 0,.sq zfe]) s:=by
 intro k
 induction k with
 | zero=>intro x5 s _ h;exact nm h
 | succ k ih=>
   intro x5 s hs h
   rw [yr] at h
   obtain ⟨h0,h1,h4,h7,h8⟩:=hs
   refine .seq (rg (g2 8 7 (jb (decide (x5 < (x1.length:Int)))) h8 h7 fun h9=>gq (.nsq (.seq (zu h9 h (fun h=>?_) (fun h=>?_))))))
   · refine .skip (.nsq (.seq (.block (.seq (rg (gm h8 fun h10=>gm h10 fun h5=>gq (.nsq (.seq (rg (gm h1 fun h11=>gm h0 fun h12=>gm h5 fun h13=>?_))))))))))
     obtain ⟨v8,Ev8,h⟩:=zd h
     refine gv (.ref .sh 0 [] (ji v8)) (yG (t:=.sh) (lo:=0) (xs:=x1) h12 h13 Ev8 rfl rfl) fun h14=>g1 14 (ji v8) h14 fun h15=>?_
     obtain ⟨r9,Er9,h⟩:=zd h
     refine MV (m:=0) (al:=false) (r:=enc (r9:Bool)) (fs:=[]) (env:=[.ref .sh 0 [] (ji x2.env.1.v)]) (us:=[]) (ws:=[Arg.arg (x2.env.1:(Rf Int))]) h11 xD (vg (Xg rfl) xD) rfl [enc (v8:Int)] (zl h15 rfl rfl zJ) (H.c33 _ _ _ Er9) H.g33 rfl rfl rfl rfl (gq (.nsq (zu rfl h (fun h=>?_) (fun h=>?_))))
     · refine .seq (rg (gm h5 fun h17=>gm h17 fun h4=>gq (.nsq (.ret ?_))))
       obtain rfl:=oi h
       exact rrA (zA h4) rfl
     refine .skip (.nbk (.nsq (rg (g1 8 (ji (w64 (x5 + 1))) h8 fun h18=>gm h18 fun h8=>gq (.nlp ?_)))))
     exact ih (w64 (x5 + 1)) _ ⟨h0,h1,h4,h7,h8⟩ h
   refine .exit (.esq (.elp (.ebk (.nsq (.seq (rg (g0 (ji (-1)) fun h4=>gq (.nsq (.ret ?_)))))))))
   obtain rfl:=oi h
   exact rrA (zA h4) rfl
def yo (F:Nat) (x1:LI) (x2:(Cl 33 Unit ((Rf Int)×Unit))):Option Int:=
 yr F x1 x2 F 0
theorem zuQ (H:zjo D σ F) (x1:LI) (x2:(Cl 33 Unit ((Rf Int)×Unit))) (s:Nat→V) (hs:zB [(0,eL x1),(1,.fn 33 [] [.ref .sh 0 [] (ji x2.env.1.v)])] s) (h:yo F x1 x2=some r):Run D σ (zmH r) (.run zmz []) s:=by
 unfold yo at h
 obtain ⟨h0,h1⟩:=hs
 refine .seq (rg (g0 (ji 0) fun h4=>gq (.nsq (.seq (.seq (rg (gm h0 fun h6=>gl x1 h6 fun h7=>g0 (ji 0) fun h8=>gq (.nsq (.block (.loop ?_))))))))))
 exact zdy H x1 x2 F 0 _ ⟨h0,h1,h4,h7,h8⟩ h
end
def zjG (F:Nat):Ent:=ent 32 (fun (x:(LI×(Cl 33 Unit ((Rf Int)×Unit))×Unit))=>yo F x.1 x.2.1) (fun (r:Int)=>(enc (r:Int))) 0 false [(1,33)]
abbrev zms (D:List V→Option V) (F:Nat):Prop:=∀ (x0:LI) (x1:(Cl 33 Unit ((Rf Int)×Unit))) r,yo F x0 x1=some r→D [enc x0,Arg.arg x1]=some (enc (r:Int))
theorem zr4 {F:Nat}:zms (zjG F).den F:=fun x0 x1 _ h=>zZ (x0,x1,()) h
theorem zrx (hF:zH Tp D σ) (H:zjo D σ F):(zjG F).Ok Tp:=okZ (f:=32) Try.func32 fun ⟨x0,x1,_⟩ y hy=>cR hF Try.func32 c32s2 (zuQ H x0 x1 _ ⟨rfl,rfl⟩ hy)
def zvn:AC:=(.cond (.t 52) (.exit 0) .skip)
def zvp:AC:=(.cond (.t 56) (rr [jm 57 1,jv 58 (.fn 33 [] [.t 8]),jx 59 (.call (jf 32) [.t 57,.t 58]),jm 9 59]) .skip)
def zhq:AC:=(.reg [.clr [65,66]] [jv 60 (.fld (.t 6) 1 1),jv 61 (.load .p (.t 60)),jm 62 7,jm 63 9,jv 64 (.bld (.agg [i0,i0]) [(0,0,.t 62),(1,1,.t 63)]),jx 65 (.lit (.agg [i0,i0]) 1 [(0,0,.t 64)]),jx 66 (.app (.ag [.s,.s]) (.t 61) (.t 65)),jv 67 (.fld (.t 6) 1 1),jz (.store .p (.t 67) (.t 66))] [.drp 2121,.home 66 2121])
def zuc:AC:=(.seq (.seq (rr [jl 55 8,jv 56 (.bin .neq (.t 55) (jn 0))]) zvp) zhq)
def zuq:AC:=(.seq (rr [jm 53 7,jv 54 (.bin .add (.t 53) (jn 1)),jm 9 54]) zuc)
def zuS:AC:=(.seq (.seq (rr [jm 48 7,jv 49 (.fld (.t 2) 0 0),jl 50 49,jv 51 (.bin .sub (.t 50) (jn 1)),jv 52 (.bin .eql (.t 48) (.t 51))]) zvn) zuq)
def zvg:AC:=(.seq (.reg [.clr [45,46]] [jv 35 (.fld (.t 6) 0 0),jv 36 (.load .p (.t 35)),jl 37 8,jm 38 1,jm 39 7,jv 40 (.idx (.t 38) (.t 39) 1),jl 41 40,jv 42 (.bin .shl (jn 1) (.t 41)),jv 43 (.bin .or (.t 37) (.t 42)),jx 44 (.call (jf 31) [.t 43]),jx 45 (.lit (.sl .nl .s 0 []) 1 [(0,0,.t 44)]),jx 46 (.app .p (.t 36) (.t 45)),jv 47 (.fld (.t 6) 0 0),jz (.store .p (.t 47) (.t 46))] [.drp 2120,.home 46 2120]) zuS)
def zhp:AC:=(rr [jv 68 (.bin .add (.t 30) (jn 1)),jm 30 68])
def zuZ:AC:=(.seq (.block 1 (.seq (.reg [.clr [8]] [jm 32 30,jv 33 (.idx (.t 28) (.t 30) 1),jl 34 33,jx 8 (.alloc i0),jm 7 32,jz (.store .s (.t 8) (.t 34))] []) zvg)) zhp)
def zqn:AC:=(.seq (.cond (.t 31) .skip (.exit 0)) zuZ)
def Qx:AC:=(.seq (rr [jv 31 (.bin .lss (.t 30) (.t 29))]) zqn)
def zbK:AC:=(.seq (rr [jv 69 (.load (.ag [.p,.p]) (.t 6)),jz (.store (.ag [.p,.p]) (.t 4) (.t 69)),jv 5 (.mov kt)]) .ret)
def ziH:AC:=(.cond (.t 23) (.seq (rr [jv 24 (.bld (.agg [.sl .nl .p 0 [],.sl .nl (.ag [.s,.s]) 0 []]) []),jz (.store (.ag [.p,.p]) (.t 4) (.t 24)),jv 5 (.mov kf)]) .ret) .skip)
def zou:AC:=(.block 0 (.loop Qx))
def zoQ:AC:=(.seq (.seq (rr [jv 25 (.load (.ag [.s,.p]) (.t 2)),jx 26 (.call (jf 29) [.t 25]),jm 27 1,jx 28 (.call (jf 30) [.t 26,.t 27]),jk 29 28,jv 30 (.mov (jn 0))]) zou) zbK)
def ziR:AC:=(.seq (.reg [.clr [6]] [jx 6 (.alloc (.agg [.sl .nl .p 0 [],.sl .nl (.ag [.s,.s]) 0 []]))] []) zoQ)
def zoO:AC:=(.seq (.seq (rr [jv 10 (.load (.ag [.s,.p]) (.t 2)),jx 11 (.call (jf 22) [.t 10]),jv 12 (.un .not (.t 11)),jm 13 12,jg 14 13 false (.load (.ag [.s,.p]) (.t 2)),jg 15 13 false (.mov (.t 1)),.mk (some 16) (some (13,false)) false (.call (jf 28) [.t 14,.t 15]),jg 17 13 false (.un .not (.t 16)),jv 18 (.pick (.t 13) kt (.t 17)),jm 19 18,jg 20 19 false (.fld (.t 2) 0 0),jg 21 19 false (.load .s (.t 20)),jg 22 19 false (.bin .eql (.t 21) (jn 0)),jv 23 (.pick (.t 19) kt (.t 22))]) ziH) ziR)
def A12:AC:=(.seq (.reg [.clr [2,4]] [jx 2 (.box (.t 0)),jx 4 (.alloc (.agg [.sl .nl .p 0 [],.sl .nl (.ag [.s,.s]) 0 []])),jv 5 (.mov kf)] []) zoO)
def zxl:List An:=[⟨0,[.clr [2,4]],[],[],[]⟩,⟨3,[.clr [6]],[],[],[]⟩,⟨6,[.clr [8]],[],[],[]⟩,⟨7,[.clr [45,46]],[],[],[.drp 2120,.home 46 2120]⟩,⟨12,[.clr [65,66]],[],[],[.drp 2121,.home 66 2121]⟩]
theorem c12:cq Tp Try.f12 zxl=some A12:=by kernel_rfl
structure H12 (D:Den) (σ:Sig) (F:Nat):Prop where
 c22:C22 (D 22) F
 g22:σ 22=some (0,false)
 c28:C28 (D 28) F
 g28:σ 28=some (0,false)
 c29:C29 (D 29) F
 g29:σ 29=some (0,false)
 c30:C30 (D 30) F
 g30:σ 30=some (0,false)
 c31:C31 (D 31) F
 g31:σ 31=some (0,false)
 c32s2:zms (D 32) F
 g32s2:σ 32=some (0,false)
abbrev R12 (r:(((List LI)×TP)×Bool)):(Nat→V)→Prop:=RR Tp [.cell 4 29,.tmp 5] 0 true (.tup [enc (r.1:((List LI)×TP)),enc (r.2:Bool)])
section
variable {r:(((List LI)×TP)×Bool)}
def vA (F:Nat) (x2:LI) (x1:GR) (ap33:(List LI)) (x18:(NL (Int×Int))) (x19:Int) (r7:LI) (c1:(NL LI)→(NL (Int×Int))→Int→Option (((List LI)×TP)×Bool)) (x35:Int):Option (((List LI)×TP)×Bool):=
 (vh x18.list [(x19,x35)]).bind fun ap36=>
 c1 (.of ap33) (.of ap36) (w64 (x19 + 1))
theorem zce (H:H12 D σ F) (x2:LI) (x1:GR) (ap33:(List LI)) (x18:(NL (Int×Int))) (x19:Int) (r7:LI) (c1:(NL LI)→(NL (Int×Int))→Int→Option (((List LI)×TP)×Bool)) (Hc1:∀ (x17:(NL LI)) (x18:(NL (Int×Int))) (x19:Int) (s:Nat→V),zB [(1,eL x2),(2,bG 2 x1),(4,.ref (.bx 4) 0 [] (.agg [.sl .nl (shp LI) 0 [],nP])),(5,jb false),(6,.ref (.bx 6) 0 [] (.agg [zh (.at 2120 []) (x17:NL LI),zh (.at 2121 []) (x18:NL (Int×Int))])),(28,eL r7),(29,ji (r7.length:Int)),(30,ji x19)] s→c1 x17 x18 x19=some r→Run D σ (R12 r) (.run Qx [.lp Qx,.bk 0,.sq zbK]) s) (x35:Int) (s:Nat→V) (hs:zB [(1,eL x2),(2,bG 2 x1),(4,.ref (.bx 4) 0 [] (.agg [.sl .nl (shp LI) 0 [],nP])),(5,jb false),(6,.ref (.bx 6) 0 [] (.agg [zh (.at 2120 []) (.of (ap33:List LI)),zh (.at 2121 []) (x18:NL (Int×Int))])),(7,ji x19),(9,ji x35),(28,eL r7),(29,ji (r7.length:Int)),(30,ji x19)] s) (h:vA F x2 x1 ap33 x18 x19 r7 c1 x35=some r):Run D σ (R12 r) (.nrm [.sq zhq,.bk 1,.sq zhp,.lp Qx,.bk 0,.sq zbK]) s:=by
 unfold vA at h
 obtain ⟨h1,h2,h4,h5,h6,h7,h9,h28,h29,h30⟩:=hs
 refine .nsq (zC (yc ?_))
 refine ez [(1,_),(2,_),(4,_),(5,_),(6,_),(7,_),(9,_),(28,_),(29,_),(30,_),(65,_),(66,_)] ⟨za h1 rfl me,za h2 rfl (zi rfl mIE),za h4 rfl (zi rfl (zr (zc rfl (zc rfl zk)))),za h5 rfl mb,za h6 rfl (zi rfl (zr (zc (zm (r:=2120) (p:=[]) rfl rfl) (zc (zm (r:=2121) (p:=[]) rfl rfl) zk)))),za h7 rfl mi,za h9 rfl mi,za h28 rfl me,za h29 rfl mi,za h30 rfl mi,zg rfl,zg rfl⟩ ?_
 rintro s ⟨h1,h2,h4,h5,h6,h7,h9,h28,h29,h30,h65,h66⟩
 refine g1 6 (.ref (.bx 6) 0 [1] (zh (.at 2121 []) (x18:NL (Int×Int)))) h6 fun h60=>gv (zh (.at 2121 []) (x18:NL (Int×Int))) (xm h60 w7) fun h61=>gm h7 fun h62=>gm h9 fun h63=>g2 62 63 (.agg [ji x19,ji x35]) h62 h63 fun h64=>xv [(64,.agg [ji x19,ji x35])] [enc ((x19,x35):(Int×Int))] h64 rfl rfl h65 ?_
 obtain ⟨ap36,Eap36,h⟩:=zd h
 refine ZG (q:=2121) (p:=[]) (o:=(x18:NL (Int×Int))) (ys:=([(x19,x35)]:TP)) (t2:=.at 65 []) (lo2:=0) h61 rfl rfl h66 (vK (o:=(x18:NL (Int×Int))) Eap36 (by split <;> simp)) (fun s27 ha27=>g1 6 (.ref (.bx 6) 0 [1] (kdO (x18:NL (Int×Int)))) (show s27 6=(.ref (.bx 6) 0 [] (.agg [zh (.at 2120 []) (.of (ap33:List LI)),kdO (x18:NL (Int×Int))])) from xG ha27 h6 (zi rfl (zr (zc (zm (r:=2120) (p:=[]) rfl rfl) (zc wX zk)))) (by intro h;first | (cases h;done) | (subst h;rfl))) fun h67=>?_)
 refine zQ (zh (.at 66 []) (.of (ap36:TP))) (zx h67 rfl) (zx rfl rfl) ⟨by decide,by decide,rfl,rfl,YQ,ui rfl rfl⟩ (xf (uq (x:=2121) (fun s28 hx_28 hd_28=>yR (r:=66) (x:=2121) (v:=_) (by exact hx_28) rfl (fun s29 hz29=>?_))))
 refine ez [(1,eL x2),(2,bG 2 x1),(4,.ref (.bx 4) 0 [] (.agg [.sl .nl (shp LI) 0 [],nP])),(5,jb false),(6,.ref (.bx 6) 0 [] (.agg [zh (.at 2120 []) (.of (ap33:List LI)),zh (.at 2121 []) (.of (ap36:TP))])),(28,eL r7),(29,ji (r7.length:Int)),(30,ji x19)] ⟨hz29 1 _ _ (show s28 1=(eL x2) from (hd_28 1 (by decide)).trans (zb (show s27 1=(eL x2) from zF ha27 h1 me) uE)) me,hz29 2 _ _ (show s28 2=(bG 2 x1) from (hd_28 2 (by decide)).trans (zb (show s27 2=(bG 2 x1) from zF ha27 h2 (zi rfl mIE)) (zj rfl rfl uIE))) (zi rfl mIE),hz29 4 _ _ (show s28 4=(.ref (.bx 4) 0 [] (.agg [.sl .nl (shp LI) 0 [],nP])) from (hd_28 4 (by decide)).trans (zb (show s27 4=(.ref (.bx 4) 0 [] (.agg [.sl .nl (shp LI) 0 [],nP])) from zF ha27 h4 (zi rfl (zr (zc rfl (zc rfl zk))))) (zj rfl rfl (zK (zf rfl (zf rfl rfl)))))) (zi rfl (zr (zc rfl (zc rfl zk)))),hz29 5 _ _ (show s28 5=(jb false) from (hd_28 5 (by decide)).trans (zb (show s27 5=(jb false) from zF ha27 h5 mb) rfl)) mb,hz29 6 _ (.ref (.bx 6) 0 [] (.agg [zh (.at 2120 []) (.of (ap33:List LI)),zh (.at 2121 []) (.of (ap36:TP))])) (show s28 6=(.ref (.bx 6) 0 [] (.agg [zh (.at 2120 []) (.of (ap33:List LI)),zh (.at 66 []) (.of (ap36:TP))])) from (hd_28 6 (by decide)).trans (zb (show s27 6=(.ref (.bx 6) 0 [] (.agg [zh (.at 2120 []) (.of (ap33:List LI)),kdO (x18:NL (Int×Int))])) from xG ha27 h6 (zi rfl (zr (zc (zm (r:=2120) (p:=[]) rfl rfl) (zc wX zk)))) (by intro h;first | (cases h;done) | (subst h;rfl))) (u6 (zf (yg rfl rfl) (zf YS rfl))))) (zi rfl (zr (zc (zm (r:=2120) (p:=[]) rfl rfl) (zc (zm (r:=66) (p:=[]) rfl rfl) zk)))),hz29 28 _ _ (show s28 28=(eL r7) from (hd_28 28 (by decide)).trans (zb (show s27 28=(eL r7) from zF ha27 h28 me) uE)) me,hz29 29 _ _ (show s28 29=(ji (r7.length:Int)) from (hd_28 29 (by decide)).trans (zb (show s27 29=(ji (r7.length:Int)) from zF ha27 h29 mi) rfl)) mi,hz29 30 _ _ (show s28 30=(ji x19) from (hd_28 30 (by decide)).trans (zb (show s27 30=(ji x19) from zF ha27 h30 mi) rfl)) mi⟩ ?_
 rintro s ⟨h1,h2,h4,h5,h6,h28,h29,h30⟩
 refine .nbk (.nsq (rg (g1 30 (ji (w64 (x19 + 1))) h30 fun h68=>gm h68 fun h30=>gq (.nlp ?_))))
 exact Hc1 (.of ap33) (.of ap36) (w64 (x19 + 1)) _ ⟨h1,h2,h4,h5,h6,h28,h29,h30⟩ h
def xc (F:Nat) (x2:LI) (x1:GR) (r7:LI) :Nat→(NL LI)→(NL (Int×Int))→Int→Option (((List LI)×TP)×Bool)
 | 0,_,_,_=>none
 | k + 1,x17,x18,x19=>
   bif decide (x19 < (r7.length:Int)) then
    (idx r7 x19).bind fun v29=>
    (idx x2 x19).bind fun v30=>
    (Uv .i64 1 v30).bind fun q31=>
    (Xp F (ior .i64 v29 q31)).bind fun r32=>
    (vh x17.list [r32]).bind fun ap33=>
    bif (x19 == (w64 (x1.1 - 1))) then
     some ((ap33,x18.list),true)
    else
     bif (v29 != 0) then
      (yo F x2 (Cl.mk () ((Rf.mk v29:(Rf Int)),()):(Cl 33 Unit ((Rf Int)×Unit)))).bind fun r37=>
      vA F x2 x1 ap33 x18 x19 r7 (xc F x2 x1 r7 k) r37
     else
      vA F x2 x1 ap33 x18 x19 r7 (xc F x2 x1 r7 k) (w64 (x19 + 1))
   else
    some ((x17.list,x18.list),true)
theorem zhs (H:H12 D σ F) (x2:LI) (x1:GR) (r7:LI) :∀ (k:Nat) (x17:(NL LI)) (x18:(NL (Int×Int))) (x19:Int) (s:Nat→V),zB [(1,eL x2),(2,bG 2 x1),(4,.ref (.bx 4) 0 [] (.agg [.sl .nl (shp LI) 0 [],nP])),(5,jb false),(6,.ref (.bx 6) 0 [] (.agg [zh (.at 2120 []) (x17:NL LI),zh (.at 2121 []) (x18:NL (Int×Int))])),(28,eL r7),(29,ji (r7.length:Int)),(30,ji x19)] s→xc F x2 x1 r7 k x17 x18 x19=some r→Run D σ (R12 r) (.run Qx [.lp Qx,.bk 0,.sq zbK]) s:=by
 intro k
 induction k with
 | zero=>intro x17 x18 x19 s _ h;exact nm h
 | succ k ih=>
   intro x17 x18 x19 s hs h
   rw [xc] at h
   obtain ⟨h1,h2,h4,h5,h6,h28,h29,h30⟩:=hs
   refine .seq (rg (g2 30 29 (jb (decide (x19 < (r7.length:Int)))) h30 h29 fun h31=>gq (.nsq (.seq (zu h31 h (fun h=>?_) (fun h=>?_))))))
   · refine .skip (.nsq (.seq (.block (.seq (zC (yc ?_))))))
     refine ez [(1,_),(2,_),(4,_),(5,_),(6,_),(8,_),(28,_),(29,_),(30,_)] ⟨za h1 rfl me,za h2 rfl (zi rfl mIE),za h4 rfl (zi rfl (zr (zc rfl (zc rfl zk)))),za h5 rfl mb,za h6 rfl (zi rfl (zr (zc (zm (r:=2120) (p:=[]) rfl rfl) (zc (zm (r:=2121) (p:=[]) rfl rfl) zk)))),zg rfl,za h28 rfl me,za h29 rfl mi,za h30 rfl mi⟩ ?_
     rintro s ⟨h1,h2,h4,h5,h6,h8,h28,h29,h30⟩
     refine gm h30 fun h32=>?_
     obtain ⟨v29,Ev29,h⟩:=zd h
     refine gv (.ref .sh 0 [] (ji v29)) (yG (t:=.sh) (lo:=0) (xs:=r7) h28 h30 Ev29 rfl rfl) fun h33=>g1 33 (ji v29) h33 fun h34=>y6 h8 (gm h32 fun h7=>zQ (ji v29) (zx rfl rfl) (zx h34 rfl) (xr (by first | rfl | simp [V.toks,V.tokss,toks_enc,zN])) ?_)
     refine gz [(1,eL x2),(2,bG 2 x1),(4,.ref (.bx 4) 0 [] (.agg [.sl .nl (shp LI) 0 [],nP])),(5,jb false),(6,.ref (.bx 6) 0 [] (.agg [zh (.at 2120 []) (x17:NL LI),zh (.at 2121 []) (x18:NL (Int×Int))])),(7,ji x19),(8,.ref (.bx 8) 0 [] (ji v29)),(28,eL r7),(29,ji (r7.length:Int)),(30,ji x19)] ⟨zb h1 uE,zb h2 (zj rfl rfl uIE),zb h4 (zj rfl rfl (zK (zf rfl (zf rfl rfl)))),zb h5 rfl,zb h6 (zj rfl rfl (zK (zf (yg rfl rfl) (zf (yg rfl rfl) rfl)))),zb h7 rfl,zb rfl rfl,zb h28 uE,zb h29 rfl,zb h30 rfl⟩ ?_
     rintro s ⟨h1,h2,h4,h5,h6,h7,h8,h28,h29,h30⟩
     refine .nsq (.seq (zC (yc ?_)))
     refine ez [(1,_),(2,_),(4,_),(5,_),(6,_),(7,_),(8,_),(28,_),(29,_),(30,_),(45,_),(46,_)] ⟨za h1 rfl me,za h2 rfl (zi rfl mIE),za h4 rfl (zi rfl (zr (zc rfl (zc rfl zk)))),za h5 rfl mb,za h6 rfl (zi rfl (zr (zc (zm (r:=2120) (p:=[]) rfl rfl) (zc (zm (r:=2121) (p:=[]) rfl rfl) zk)))),za h7 rfl mi,za h8 rfl (zi rfl mi),za h28 rfl me,za h29 rfl mi,za h30 rfl mi,zg rfl,zg rfl⟩ ?_
     rintro s ⟨h1,h2,h4,h5,h6,h7,h8,h28,h29,h30,h45,h46⟩
     refine g1 6 (.ref (.bx 6) 0 [0] (zh (.at 2120 []) (x17:NL LI))) h6 fun h35=>gv (zh (.at 2120 []) (x17:NL LI)) (xm h35 w7) fun h36=>g1 8 (ji v29) h8 fun h37=>gm h1 fun h38=>gm h7 fun h39=>?_
     obtain ⟨v30,Ev30,h⟩:=zd h
     refine gv (.ref .sh 0 [] (ji v30)) (yG (t:=.sh) (lo:=0) (xs:=x2) h38 h39 Ev30 rfl rfl) fun h40=>g1 40 (ji v30) h40 fun h41=>?_
     obtain ⟨q31,Eq31,h⟩:=zd h
     refine gv (ji q31) (Y1 rfl h41 Eq31) fun h42=>g2 37 42 (ji (ior .i64 v29 q31)) h37 h42 fun h43=>?_
     obtain ⟨r32,Er32,h⟩:=zd h
     refine gcF [enc (ior .i64 v29 q31:Int)] (zl h43 rfl rfl zJ) (H.c31 _ _ Er32) H.g31 (xv [(44,eL r32)] [eL r32] rfl rfl rfl h45 ?_)
     obtain ⟨ap33,Eap33,h⟩:=zd h
     refine ZG (q:=2120) (p:=[]) (o:=(x17:NL LI)) (ys:=([r32]:List LI)) (t2:=.at 45 []) (lo2:=0) h36 rfl rfl h46 (vK (o:=(x17:NL LI)) Eap33 (by split <;> simp)) (fun s23 ha23=>g1 6 (.ref (.bx 6) 0 [0] (kdO (x17:NL LI))) (show s23 6=(.ref (.bx 6) 0 [] (.agg [kdO (x17:NL LI),zh (.at 2121 []) (x18:NL (Int×Int))])) from xG ha23 h6 (zi rfl (zr (zc wX (zc (zm (r:=2121) (p:=[]) rfl rfl) zk)))) (by intro h;first | (cases h;done) | (subst h;rfl))) fun h47=>zQ (zh (.at 46 []) (.of (ap33:List LI))) (zx h47 rfl) (zx rfl rfl) ⟨by decide,by decide,rfl,rfl,YQ,ui rfl rfl⟩ ?_)
     refine xf (uq (x:=2120) (fun s24 hx_24 hd_24=>yR (r:=46) (x:=2120) (v:=_) (by exact hx_24) rfl (fun s25 hz25=>?_)))
     refine ez [(1,eL x2),(2,bG 2 x1),(4,.ref (.bx 4) 0 [] (.agg [.sl .nl (shp LI) 0 [],nP])),(5,jb false),(6,.ref (.bx 6) 0 [] (.agg [zh (.at 2120 []) (.of (ap33:List LI)),zh (.at 2121 []) (x18:NL (Int×Int))])),(7,ji x19),(8,.ref (.bx 8) 0 [] (ji v29)),(28,eL r7),(29,ji (r7.length:Int)),(30,ji x19)] ⟨hz25 1 _ _ (show s24 1=(eL x2) from (hd_24 1 (by decide)).trans (zb (show s23 1=(eL x2) from zF ha23 h1 me) uE)) me,hz25 2 _ _ (show s24 2=(bG 2 x1) from (hd_24 2 (by decide)).trans (zb (show s23 2=(bG 2 x1) from zF ha23 h2 (zi rfl mIE)) (zj rfl rfl uIE))) (zi rfl mIE),hz25 4 _ _ (show s24 4=(.ref (.bx 4) 0 [] (.agg [.sl .nl (shp LI) 0 [],nP])) from (hd_24 4 (by decide)).trans (zb (show s23 4=(.ref (.bx 4) 0 [] (.agg [.sl .nl (shp LI) 0 [],nP])) from zF ha23 h4 (zi rfl (zr (zc rfl (zc rfl zk))))) (zj rfl rfl (zK (zf rfl (zf rfl rfl)))))) (zi rfl (zr (zc rfl (zc rfl zk)))),hz25 5 _ _ (show s24 5=(jb false) from (hd_24 5 (by decide)).trans (zb (show s23 5=(jb false) from zF ha23 h5 mb) rfl)) mb,hz25 6 _ (.ref (.bx 6) 0 [] (.agg [zh (.at 2120 []) (.of (ap33:List LI)),zh (.at 2121 []) (x18:NL (Int×Int))])) (show s24 6=(.ref (.bx 6) 0 [] (.agg [zh (.at 46 []) (.of (ap33:List LI)),zh (.at 2121 []) (x18:NL (Int×Int))])) from (hd_24 6 (by decide)).trans (zb (show s23 6=(.ref (.bx 6) 0 [] (.agg [kdO (x17:NL LI),zh (.at 2121 []) (x18:NL (Int×Int))])) from xG ha23 h6 (zi rfl (zr (zc wX (zc (zm (r:=2121) (p:=[]) rfl rfl) zk)))) (by intro h;first | (cases h;done) | (subst h;rfl))) (u6 (zf YS (zf (yg rfl rfl) rfl))))) (zi rfl (zr (zc (zm (r:=46) (p:=[]) rfl rfl) (zc (zm (r:=2121) (p:=[]) rfl rfl) zk)))),hz25 7 _ _ (show s24 7=(ji x19) from (hd_24 7 (by decide)).trans (zb (show s23 7=(ji x19) from zF ha23 h7 mi) rfl)) mi,hz25 8 _ _ (show s24 8=(.ref (.bx 8) 0 [] (ji v29)) from (hd_24 8 (by decide)).trans (zb (show s23 8=(.ref (.bx 8) 0 [] (ji v29)) from zF ha23 h8 (zi rfl mi)) rfl)) (zi rfl mi),hz25 28 _ _ (show s24 28=(eL r7) from (hd_24 28 (by decide)).trans (zb (show s23 28=(eL r7) from zF ha23 h28 me) uE)) me,hz25 29 _ _ (show s24 29=(ji (r7.length:Int)) from (hd_24 29 (by decide)).trans (zb (show s23 29=(ji (r7.length:Int)) from zF ha23 h29 mi) rfl)) mi,hz25 30 _ _ (show s24 30=(ji x19) from (hd_24 30 (by decide)).trans (zb (show s23 30=(ji x19) from zF ha23 h30 mi) rfl)) mi⟩ ?_
     rintro s ⟨h1,h2,h4,h5,h6,h7,h8,h28,h29,h30⟩
     refine .nsq (.seq (.seq (rg (gm h7 fun h48=>g1 2 (.ref (.bx 2) 0 [0] (ji x1.1)) h2 fun h49=>g1 49 (ji x1.1) h49 fun h50=>g1 50 (ji (w64 (x1.1 - 1))) h50 fun h51=>g2 48 51 (jb (x19 == (w64 (x1.1 - 1)))) h48 h51 fun h52=>gq (.nsq (zu h52 h (fun h=>?_) (fun h=>?_)))))))
     · refine .exit (.esq (.ebn (by decide) (.esq (.elp (.ebk (.nsq (.seq (rg (gv (.agg [zh (.at 2120 []) (.of (ap33:List LI)),zh (.at 2121 []) (x18:NL (Int×Int))]) (xm (c:=.agg [zh (.at 2120 []) (.of (ap33:List LI)),zh (.at 2121 []) (x18:NL (Int×Int))]) h6 (by simp [V.shape,V.shapes,zG,Sh.beq,Sh.beqs])) fun h69=>?_)))))))))
       refine zQ (.agg [zh (.at 2120 []) (.of (ap33:List LI)),zh (.at 2121 []) (x18:NL (Int×Int))]) (zx h4 rfl) (zx h69 rfl) ⟨by decide,by decide,rfl,(by simp [V.shape,V.shapes,zG,Sh.beq,Sh.beqs]),(by simp [V.shape,V.shapes,zG,Sh.beq,Sh.beqs]),(by simp [V.toks,V.tokss,zN])⟩ (g0 (jb true) fun h5=>gz [(4,.ref (.bx 4) 0 [] (.agg [zh (.at 2120 []) (.of (ap33:List LI)),zh (.at 2121 []) (x18:NL (Int×Int))])),(5,_)] ⟨zb h4 rfl,h5⟩ ?_)
       rintro s ⟨h4,h5⟩
       refine .nsq (.ret ?_)
       obtain rfl:=oi h
       exact rrB (yL h4 (by simp only [V.shape,V.shapes,zG];kernel_rfl)) (zA h5) (ww (uH (zW (uB (zW (xk (o:=.of ap33)) (zW (xk (o:=x18)) xg))) (zW (w5 (x:=(true:Bool))) xg))))
     refine .skip (.nsq (.seq (rg (gm h7 fun h53=>g1 53 (ji (w64 (x19 + 1))) h53 fun h54=>gm h54 fun h9=>gq (.nsq (.seq (.seq (rg (g1 8 (ji v29) h8 fun h55=>g1 55 (jb (v29 != 0)) h55 fun h56=>gq (.nsq (zu h56 h (fun h=>?_) (fun h=>?_))))))))))))
     · refine rg (gm h1 fun h57=>g1 8 (.fn 33 [] [.ref (.bx 8) 0 [] (ji v29)]) h8 fun h58=>?_)
       obtain ⟨r37,Er37,h⟩:=zd h
       refine gcF [eL x2,Arg.arg ((Cl.mk () ((Rf.mk v29:(Rf Int)),()):(Cl 33 Unit ((Rf Int)×Unit))):(Cl 33 Unit ((Rf Int)×Unit)))] (zl h57 rfl (erase_enc (x2:LI)) (zl h58 rfl (UZ xD (vg (Xg rfl) xD)) zJ)) (H.c32s2 _ _ _ Er37) H.g32s2 (gm (rf (ji r37)) fun h9=>gq ?_)
       exact zce H x2 x1 ap33 x18 x19 r7 (xc F x2 x1 r7 k) ih r37 _ ⟨h1,h2,h4,h5,h6,h7,h9,h28,h29,h30⟩ h
     refine .skip ?_
     exact zce H x2 x1 ap33 x18 x19 r7 (xc F x2 x1 r7 k) ih (w64 (x19 + 1)) _ ⟨h1,h2,h4,h5,h6,h7,h9,h28,h29,h30⟩ h
   refine .exit (.esq (.elp (.ebk (.nsq (.seq (rg (gv (.agg [zh (.at 2120 []) (x17:NL LI),zh (.at 2121 []) (x18:NL (Int×Int))]) (xm (c:=.agg [zh (.at 2120 []) (x17:NL LI),zh (.at 2121 []) (x18:NL (Int×Int))]) h6 (by simp [V.shape,V.shapes,zG,Sh.beq,Sh.beqs])) fun h69=>zQ (.agg [zh (.at 2120 []) (x17:NL LI),zh (.at 2121 []) (x18:NL (Int×Int))]) (zx h4 rfl) (zx h69 rfl) ⟨by decide,by decide,rfl,(by simp [V.shape,V.shapes,zG,Sh.beq,Sh.beqs]),(by simp [V.shape,V.shapes,zG,Sh.beq,Sh.beqs]),(by simp [V.toks,V.tokss,zN])⟩ (g0 (jb true) fun h5=>?_))))))))
   refine gz [(4,.ref (.bx 4) 0 [] (.agg [zh (.at 2120 []) (x17:NL LI),zh (.at 2121 []) (x18:NL (Int×Int))])),(5,_)] ⟨zb h4 rfl,h5⟩ ?_
   rintro s ⟨h4,h5⟩
   refine .nsq (.ret ?_)
   obtain rfl:=oi h
   exact rrB (yL h4 (by simp only [V.shape,V.shapes,zG];kernel_rfl)) (zA h5) (ww (uH (zW (uB (zW (xk (o:=x17)) (zW (xk (o:=x18)) xg))) (zW (w5 (x:=(true:Bool))) xg))))
def wR (F:Nat) (x2:LI) (x1:GR)  (x5:Bool):Option (((List LI)×TP)×Bool):=
 bif x5 then
  some (([],[]),false)
 else
  (ZX F x1).bind fun r6=>
  (xu F r6 x2).bind fun r7=>
  xc F x2 x1 r7 F .nil .nil 0
theorem Nn (H:H12 D σ F) (x2:LI) (x1:GR)  (x5:Bool) (s:Nat→V) (hs:zB [(1,eL x2),(2,bG 2 x1),(4,.ref (.bx 4) 0 [] (.agg [.sl .nl (shp LI) 0 [],nP])),(5,jb false),(23,jb x5)] s) (h:wR F x2 x1  x5=some r):Run D σ (R12 r) (.nrm [.sq ziH,.sq ziR]) s:=by
 unfold wR at h
 obtain ⟨h1,h2,h4,h5,h23⟩:=hs
 refine .nsq (zu h23 h (fun h=>?_) (fun h=>?_))
 · refine .seq (rg (g0 (.agg [.sl .nl (shp LI) 0 [],nP]) fun h24=>zQ (.agg [.sl .nl (shp LI) 0 [],nP]) (zx h4 rfl) (zx h24 rfl) (xr (by first | rfl | simp [V.toks,V.tokss,toks_enc,zN])) (g0 (jb false) fun h5=>gz [(1,eL x2),(2,bG 2 x1),(4,.ref (.bx 4) 0 [] (.agg [.sl .nl (shp LI) 0 [],nP])),(5,_)] ⟨zb h1 uE,zb h2 (zj rfl rfl uIE),zb h4 rfl,h5⟩ ?_)))
   rintro s ⟨h1,h2,h4,h5⟩
   refine .nsq (.ret ?_)
   obtain rfl:=oi h
   exact rrB (yL h4 (by kernel_rfl)) (zA h5) (ww (uH (zW (uB (zW (xk (o:=(.nil:NL LI)) (t:=.nl)) (zW (xk (o:=(.nil:NL (Int×Int))) (t:=.nl)) xg))) (zW (w5 (x:=(false:Bool))) xg))))
 refine .skip (.nsq (.seq (zC (yc ?_))))
 refine ez [(1,_),(2,_),(4,_),(5,_),(6,_)] ⟨za h1 rfl me,za h2 rfl (zi rfl mIE),za h4 rfl (zi rfl (zr (zc rfl (zc rfl zk)))),za h5 rfl mb,zg rfl⟩ ?_
 rintro s ⟨h1,h2,h4,h5,h6⟩
 refine y6 h6 (gq (.nsq (.seq (.seq (rg (g1 2 (gV x1) h2 fun h25=>?_))))))
 obtain ⟨r6,Er6,h⟩:=zd h
 refine gcF [enc (x1:GR)] (zl h25 rfl (erase_enc (x1:GR)) zJ) (H.c29 _ _ Er6) H.g29 (gm h1 fun h27=>?_)
 obtain ⟨r7,Er7,h⟩:=zd h
 refine gcF [enc (r6:(S1 LI)),eL x2] (zl (v:=.agg [eL r6.a]) rfl rfl (erase_enc (r6:(S1 LI))) (zl h27 rfl (erase_enc (x2:LI)) zJ)) (H.c30 _ _ _ Er7) H.g30 (gl r7 rfl fun h29=>g0 (ji 0) fun h30=>gq (.nsq (.block (.loop ?_))))
 exact zhs H x2 x1 r7 F .nil .nil 0 _ ⟨h1,h2,h4,h5,rfl,rfl,h29,h30⟩ h
def wg (F:Nat) (x1:GR) (x2:LI):Option (((List LI)×TP)×Bool):=
 (vl F x1).bind fun r38=>
 bif (!r38) then
  wR F x2 x1 true
 else
  (Yh F x1 x2).bind fun r39=>
  bif (!r39) then
   wR F x2 x1 true
  else
   wR F x2 x1 (x1.1 == 0)
theorem t12 (H:H12 D σ F) (x1:GR) (x2:LI) (s:Nat→V) (hs:zB [(0,gV x1),(1,eL x2)] s) (h:wg F x1 x2=some r):Run D σ (R12 r) (.run A12 []) s:=by
 unfold wg at h
 obtain ⟨h0,h1⟩:=hs
 refine .seq (zC (yc ?_))
 refine ez [(0,_),(1,_),(2,_),(4,_)] ⟨za h0 rfl mIE,za h1 rfl me,zg rfl,zg rfl⟩ ?_
 rintro s ⟨h0,h1,h2,h4⟩
 refine xU (gV x1) (zx h0 rfl) h2 rfl (y6 h4 (g0 (jb false) fun h5=>gq (.nsq (.seq (.seq (rg (g1 2 (gV x1) (rf (bG 2 x1)) fun h10=>?_)))))))
 obtain ⟨r38,Er38,h⟩:=zd h
 refine gcF [enc (x1:GR)] (zl h10 rfl (erase_enc (x1:GR)) zJ) (H.c22 _ _ Er38) H.g22 (g1 11 (jb (!r38)) (rf (jb r38)) fun h12=>gm h12 fun h13=>yd h (fun hg4 h=>?_) (fun hg4 h=>?_))
 · iterate 4 refine yq (ct h13 hg4) ?_
   refine g2 13 17 (jb true) (ct h13 hg4) (rf (.tup [])) fun h18=>gm h18 fun h19=>yq h19 ?_
   iterate 2 refine yq h19 ?_
   refine g2 19 22 (jb true) h19 (rf (.tup [])) fun h23=>gq ?_
   exact Nn H x2 x1 true _ ⟨h1,rfl,rfl,h5,h23⟩ h
 refine zt (ct h13 hg4) (g1 2 (gV x1) (rf (bG 2 x1)) fun h14=>zt (ct h13 hg4) (gm h1 fun h15=>?_))
 obtain ⟨r39,Er39,h⟩:=zd h
 refine zt (ct h13 hg4) (gcF [enc (x1:GR),eL x2] (zl h14 rfl (erase_enc (x1:GR)) (zl h15 rfl (erase_enc (x2:LI)) zJ)) (H.c28 _ _ _ Er39) H.g28 (zt (ct h13 hg4) (g1 16 (jb (!r39)) (rf (jb r39)) fun h17=>g2 13 17 (jb (!r39)) (ct h13 hg4) h17 fun h18=>gm h18 fun h19=>yd h (fun hg10 h=>?_) (fun hg10 h=>?_))))
 · iterate 3 refine yq (ct h19 hg10) ?_
   refine g2 19 22 (jb true) (ct h19 hg10) (rf (.tup [])) fun h23=>gq ?_
   exact Nn H x2 x1 true _ ⟨h1,rfl,rfl,h5,h23⟩ h
 refine zt (ct h19 hg10) (g1 2 (.ref (.bx 2) 0 [0] (ji x1.1)) (rf (bG 2 x1)) fun h20=>zt (ct h19 hg10) (g1 20 (ji x1.1) h20 fun h21=>zt (ct h19 hg10) (g1 21 (jb (x1.1 == 0)) h21 fun h22=>g2 19 22 (jb (x1.1 == 0)) (ct h19 hg10) h22 fun h23=>gq ?_)))
 exact Nn H x2 x1 (x1.1 == 0) _ ⟨h1,rfl,rfl,h5,h23⟩ h
end
def e12 (F:Nat):Ent:=ent 12 (fun (x:(GR×LI×Unit))=>wg F x.1 x.2.1) (fun (r:(((List LI)×TP)×Bool))=>(.tup [enc (r.1:((List LI)×TP)),enc (r.2:Bool)])) 0 true []
abbrev C12 (D:List V→Option V) (F:Nat):Prop:=∀ (x0:GR) (x1:LI) r,wg F x0 x1=some r→D [enc x0,enc x1]=some (.tup [enc (r.1:((List LI)×TP)),enc (r.2:Bool)])
theorem p12 {F:Nat}:C12 (e12 F).den F:=fun x0 x1 _ h=>zZ (x0,x1,()) h
theorem o12 (hF:zH Tp D σ) (H:H12 D σ F):(e12 F).Ok Tp:=okZ (f:=12) Try.func12 fun ⟨x0,x1,_⟩ y hy=>cR hF Try.func12 c12 (t12 H x0 x1 _ ⟨rfl,rfl⟩ hy)
def zpP:AC:=(.cond (.t 14) .skip (.exit 0))
def ztO:AC:=(.cond (.t 25) (.seq (rr [jv 4 (.mov kf)]) .ret) .skip)
def zsb:AC:=(rr [jm 15 5,jv 16 (.bin .add (.t 15) (jn 1)),jm 5 16])
def zrL:AC:=(.seq (.block 1 (.seq (rr [jm 17 0,jm 18 5,jv 19 (.idx (.t 17) (.t 18) 1),jl 20 19,jm 21 1,jm 22 5,jv 23 (.idx (.t 21) (.t 22) 1),jl 24 23,jv 25 (.bin .neq (.t 20) (.t 24))]) ztO)) zsb)
def zkg:AC:=(.seq (.seq (rr [jm 11 5,jm 12 0,jk 13 12,jv 14 (.bin .lss (.t 11) (.t 13))]) zpP) zrL)
def zl0:AC:=(.seq (rr [jv 4 (.mov kt)]) .ret)
def ztE:AC:=(.cond (.t 10) (.seq (rr [jv 4 (.mov kf)]) .ret) .skip)
def zoF:AC:=(.block 0 (.loop zkg))
def zry:AC:=(.seq (.seq (rr [jv 5 (.mov (jn 0))]) zoF) zl0)
def zqH:AC:=(.seq (.seq (rr [jm 6 0,jk 7 6,jm 8 1,jk 9 8,jv 10 (.bin .neq (.t 7) (.t 9))]) ztE) zry)
def A36:AC:=(.seq (rr [jv 4 (.mov kf)]) zqH)
def zv8:List An:=[]
theorem c36:cq Tp Try.f36 zv8=some A36:=by kernel_rfl
structure H36 (D:Den) (σ:Sig) (F:Nat):Prop where
 mk ::
abbrev R36 (r:Bool):(Nat→V)→Prop:=RR Tp [.tmp 4] 0 false (enc (r:Bool))
section
variable {r:Bool}
def YW (F:Nat) (x1:LI) (x2:LI) :Nat→Int→Option Bool
 | 0,_=>none
 | k + 1,x5=>
   bif decide (x5 < (x1.length:Int)) then
    (idx x1 x5).bind fun v8=>
    (idx x2 x5).bind fun v9=>
    bif (v8 != v9) then
     some false
    else
     (YW F x1 x2 k) (w64 (x5 + 1))
   else
    some true
theorem zi4 (H:H36 D σ F) (x1:LI) (x2:LI) :∀ (k:Nat) (x5:Int) (s:Nat→V),zB [(0,eL x1),(1,eL x2),(4,jb false),(5,ji x5)] s→YW F x1 x2 k x5=some r→Run D σ (R36 r) (.run zkg [.lp zkg,.bk 0,.sq zl0]) s:=by
 intro k
 induction k with
 | zero=>intro x5 s _ h;exact nm h
 | succ k ih=>
   intro x5 s hs h
   rw [YW] at h
   obtain ⟨h0,h1,h4,h5⟩:=hs
   refine .seq (.seq (rg (gm h5 fun h11=>gm h0 fun h12=>gl x1 h12 fun h13=>g2 11 13 (jb (decide (x5 < (x1.length:Int)))) h11 h13 fun h14=>gq (.nsq (zu h14 h (fun h=>?_) (fun h=>?_))))))
   · refine .skip (.nsq (.seq (.block (.seq (rg (gm h0 fun h17=>gm h5 fun h18=>?_))))))
     obtain ⟨v8,Ev8,h⟩:=zd h
     refine gv (.ref .sh 0 [] (ji v8)) (yG (t:=.sh) (lo:=0) (xs:=x1) h17 h18 Ev8 rfl rfl) fun h19=>g1 19 (ji v8) h19 fun h20=>gm h1 fun h21=>gm h5 fun h22=>?_
     obtain ⟨v9,Ev9,h⟩:=zd h
     refine gv (.ref .sh 0 [] (ji v9)) (yG (t:=.sh) (lo:=0) (xs:=x2) h21 h22 Ev9 rfl rfl) fun h23=>g1 23 (ji v9) h23 fun h24=>g2 20 24 (jb (v8 != v9)) h20 h24 fun h25=>gq (.nsq (zu h25 h (fun h=>?_) (fun h=>?_)))
     · refine .seq (rg (g0 (jb false) fun h4=>gq (.nsq (.ret ?_))))
       obtain rfl:=oi h
       exact rrA (zA h4) rfl
     refine .skip (.nbk (.nsq (rg (gm h5 fun h15=>g1 15 (ji (w64 (x5 + 1))) h15 fun h16=>gm h16 fun h5=>gq (.nlp ?_)))))
     exact ih (w64 (x5 + 1)) _ ⟨h0,h1,h4,h5⟩ h
   refine .exit (.esq (.elp (.ebk (.nsq (.seq (rg (g0 (jb true) fun h4=>gq (.nsq (.ret ?_)))))))))
   obtain rfl:=oi h
   exact rrA (zA h4) rfl
def Jd (F:Nat) (x1:LI) (x2:LI):Option Bool:=
 bif ((x1.length:Int) != (x2.length:Int)) then
  some false
 else
  YW F x1 x2 F 0
theorem t36 (H:H36 D σ F) (x1:LI) (x2:LI) (s:Nat→V) (hs:zB [(0,eL x1),(1,eL x2)] s) (h:Jd F x1 x2=some r):Run D σ (R36 r) (.run A36 []) s:=by
 unfold Jd at h
 obtain ⟨h0,h1⟩:=hs
 refine .seq (rg (g0 (jb false) fun h4=>gq (.nsq (.seq (.seq (rg (gm h0 fun h6=>gl x1 h6 fun h7=>gm h1 fun h8=>gl x2 h8 fun h9=>g2 7 9 (jb ((x1.length:Int) != (x2.length:Int))) h7 h9 fun h10=>gq (.nsq (zu h10 h (fun h=>?_) (fun h=>?_))))))))))
 · refine .seq (rg (g0 (jb false) fun h4=>gq (.nsq (.ret ?_))))
   obtain rfl:=oi h
   exact rrA (zA h4) rfl
 refine .skip (.nsq (.seq (.seq (rg (g0 (ji 0) fun h5=>gq (.nsq (.block (.loop ?_))))))))
 exact zi4 H x1 x2 F 0 _ ⟨h0,h1,h4,h5⟩ h
end
def e36 (F:Nat):Ent:=ent 36 (fun (x:(LI×LI×Unit))=>Jd F x.1 x.2.1) (fun (r:Bool)=>(enc (r:Bool))) 0 false []
abbrev C36 (D:List V→Option V) (F:Nat):Prop:=∀ (x0:LI) (x1:LI) r,Jd F x0 x1=some r→D [enc x0,enc x1]=some (enc (r:Bool))
theorem p36 {F:Nat}:C36 (e36 F).den F:=fun x0 x1 _ h=>zZ (x0,x1,()) h
theorem o36 (hF:zH Tp D σ) (H:H36 D σ F):(e36 F).Ok Tp:=okZ (f:=36) Try.func36 fun ⟨x0,x1,_⟩ y hy=>cR hF Try.func36 c36 (t36 H x0 x1 _ ⟨rfl,rfl⟩ hy)
def zp0:AC:=(.cond (.t 14) .skip (.exit 0))
def zqu:AC:=(.cond (.t 26) (.seq (rr [jv 4 (.mov kf)]) .ret) .skip)
def zug:AC:=(rr [jm 15 5,jv 16 (.bin .add (.t 15) (jn 1)),jm 5 16])
def zt6:AC:=(.seq (.block 1 (.seq (rr [jm 17 0,jm 18 5,jv 19 (.idx (.t 17) (.t 18) 1),jv 20 (.load .p (.t 19)),jm 21 1,jm 22 5,jv 23 (.idx (.t 21) (.t 22) 1),jv 24 (.load .p (.t 23)),jx 25 (.call (jf 36) [.t 20,.t 24]),jv 26 (.un .not (.t 25))]) zqu)) zug)
def zg9:AC:=(.seq (.seq (rr [jm 11 5,jm 12 0,jk 13 12,jv 14 (.bin .lss (.t 11) (.t 13))]) zp0) zt6)
def zmT:AC:=(.seq (rr [jv 4 (.mov kt)]) .ret)
def zuH:AC:=(.cond (.t 10) (.seq (rr [jv 4 (.mov kf)]) .ret) .skip)
def zo5:AC:=(.block 0 (.loop zg9))
def zu0:AC:=(.seq (.seq (rr [jv 5 (.mov (jn 0))]) zo5) zmT)
def zre:AC:=(.seq (.seq (rr [jm 6 0,jk 7 6,jm 8 1,jk 9 8,jv 10 (.bin .neq (.t 7) (.t 9))]) zuH) zu0)
def A14:AC:=(.seq (rr [jv 4 (.mov kf)]) zre)
def zw9:List An:=[]
theorem c14:cq Tp Try.f14 zw9=some A14:=by kernel_rfl
structure H14 (D:Den) (σ:Sig) (F:Nat):Prop where
 c36:C36 (D 36) F
 g36:σ 36=some (0,false)
abbrev R14 (r:Bool):(Nat→V)→Prop:=RR Tp [.tmp 4] 0 false (enc (r:Bool))
section
variable {r:Bool}
def Yd (F:Nat) (x1:(List LI)) (x2:(List LI)) :Nat→Int→Option Bool
 | 0,_=>none
 | k + 1,x6=>
   bif decide (x6 < (x1.length:Int)) then
    (idx x1 x6).bind fun v10=>
    (idx x2 x6).bind fun v11=>
    (Jd F v10 v11).bind fun r12=>
    bif (!r12) then
     some false
    else
     (Yd F x1 x2 k) (w64 (x6 + 1))
   else
    some true
theorem zhW (H:H14 D σ F) (x1:(List LI)) (x2:(List LI)) :∀ (k:Nat) (x6:Int) (s:Nat→V),zB [(0,enc (x1:List LI)),(1,enc (x2:List LI)),(4,jb false),(5,ji x6)] s→Yd F x1 x2 k x6=some r→Run D σ (R14 r) (.run zg9 [.lp zg9,.bk 0,.sq zmT]) s:=by
 intro k
 induction k with
 | zero=>intro x6 s _ h;exact nm h
 | succ k ih=>
   intro x6 s hs h
   rw [Yd] at h
   obtain ⟨h0,h1,h4,h5⟩:=hs
   refine .seq (.seq (rg (gm h5 fun h11=>gm h0 fun h12=>gl x1 h12 fun h13=>g2 11 13 (jb (decide (x6 < (x1.length:Int)))) h11 h13 fun h14=>gq (.nsq (zu h14 h (fun h=>?_) (fun h=>?_))))))
   · refine .skip (.nsq (.seq (.block (.seq (rg (gm h0 fun h17=>gm h5 fun h18=>?_))))))
     obtain ⟨v10,Ev10,h⟩:=zd h
     refine gv (.ref .sh 0 [] (eL v10)) (yG (t:=.sh) (lo:=0) (xs:=x1) h17 h18 Ev10 rfl rfl) fun h19=>g1 19 (eL v10) h19 fun h20=>gm h1 fun h21=>gm h5 fun h22=>?_
     obtain ⟨v11,Ev11,h⟩:=zd h
     refine gv (.ref .sh 0 [] (eL v11)) (yG (t:=.sh) (lo:=0) (xs:=x2) h21 h22 Ev11 rfl rfl) fun h23=>g1 23 (eL v11) h23 fun h24=>?_
     obtain ⟨r12,Er12,h⟩:=zd h
     refine gcF [eL v10,eL v11] (zl h20 rfl (erase_enc (v10:LI)) (zl h24 rfl (erase_enc (v11:LI)) zJ)) (H.c36 _ _ _ Er12) H.g36 (g1 25 (jb (!r12)) (rf (jb r12)) fun h26=>gq (.nsq (zu h26 h (fun h=>?_) (fun h=>?_))))
     · refine .seq (rg (g0 (jb false) fun h4=>gq (.nsq (.ret ?_))))
       obtain rfl:=oi h
       exact rrA (zA h4) rfl
     refine .skip (.nbk (.nsq (rg (gm h5 fun h15=>g1 15 (ji (w64 (x6 + 1))) h15 fun h16=>gm h16 fun h5=>gq (.nlp ?_)))))
     exact ih (w64 (x6 + 1)) _ ⟨h0,h1,h4,h5⟩ h
   refine .exit (.esq (.elp (.ebk (.nsq (.seq (rg (g0 (jb true) fun h4=>gq (.nsq (.ret ?_)))))))))
   obtain rfl:=oi h
   exact rrA (zA h4) rfl
def Xq (F:Nat) (x1:(List LI)) (x2:(List LI)):Option Bool:=
 bif ((x1.length:Int) != (x2.length:Int)) then
  some false
 else
  Yd F x1 x2 F 0
theorem t14 (H:H14 D σ F) (x1:(List LI)) (x2:(List LI)) (s:Nat→V) (hs:zB [(0,enc (x1:List LI)),(1,enc (x2:List LI))] s) (h:Xq F x1 x2=some r):Run D σ (R14 r) (.run A14 []) s:=by
 unfold Xq at h
 obtain ⟨h0,h1⟩:=hs
 refine .seq (rg (g0 (jb false) fun h4=>gq (.nsq (.seq (.seq (rg (gm h0 fun h6=>gl x1 h6 fun h7=>gm h1 fun h8=>gl x2 h8 fun h9=>g2 7 9 (jb ((x1.length:Int) != (x2.length:Int))) h7 h9 fun h10=>gq (.nsq (zu h10 h (fun h=>?_) (fun h=>?_))))))))))
 · refine .seq (rg (g0 (jb false) fun h4=>gq (.nsq (.ret ?_))))
   obtain rfl:=oi h
   exact rrA (zA h4) rfl
 refine .skip (.nsq (.seq (.seq (rg (g0 (ji 0) fun h5=>gq (.nsq (.block (.loop ?_))))))))
 exact zhW H x1 x2 F 0 _ ⟨h0,h1,h4,h5⟩ h
end
def e14 (F:Nat):Ent:=ent 14 (fun (x:((List LI)×(List LI)×Unit))=>Xq F x.1 x.2.1) (fun (r:Bool)=>(enc (r:Bool))) 0 false []
abbrev C14 (D:List V→Option V) (F:Nat):Prop:=∀ (x0:(List LI)) (x1:(List LI)) r,Xq F x0 x1=some r→D [enc x0,enc x1]=some (enc (r:Bool))
theorem p14 {F:Nat}:C14 (e14 F).den F:=fun x0 x1 _ h=>zZ (x0,x1,()) h
theorem o14 (hF:zH Tp D σ) (H:H14 D σ F):(e14 F).Ok Tp:=okZ (f:=14) Try.func14 fun ⟨x0,x1,_⟩ y hy=>cR hF Try.func14 c14 (t14 H x0 x1 _ ⟨rfl,rfl⟩ hy)
def zrj:AC:=(.cond (.t 14) .skip (.exit 0))
def zsr:AC:=(.cond (.t 25) (.seq (rr [jv 4 (.mov kf)]) .ret) .skip)
def zq4:AC:=(rr [jm 15 5,jv 16 (.bin .add (.t 15) (jn 1)),jm 5 16])
def zsu:AC:=(.seq (.block 1 (.seq (rr [jm 17 0,jm 18 5,jv 19 (.idx (.t 17) (.t 18) 2),jv 20 (.load (.ag [.s,.s]) (.t 19)),jm 21 1,jm 22 5,jv 23 (.idx (.t 21) (.t 22) 2),jv 24 (.load (.ag [.s,.s]) (.t 23)),jv 25 (.eqP true (.t 20) (.t 24))]) zsr)) zq4)
def zjS:AC:=(.seq (.seq (rr [jm 11 5,jm 12 0,jk 13 12,jv 14 (.bin .lss (.t 11) (.t 13))]) zrj) zsu)
def zmB:AC:=(.seq (rr [jv 4 (.mov kt)]) .ret)
def zqr:AC:=(.cond (.t 10) (.seq (rr [jv 4 (.mov kf)]) .ret) .skip)
def zoq:AC:=(.block 0 (.loop zjS))
def zp2:AC:=(.seq (.seq (rr [jv 5 (.mov (jn 0))]) zoq) zmB)
def zsC:AC:=(.seq (.seq (rr [jm 6 0,jk 7 6,jm 8 1,jk 9 8,jv 10 (.bin .neq (.t 7) (.t 9))]) zqr) zp2)
def A15:AC:=(.seq (rr [jv 4 (.mov kf)]) zsC)
def zwN:List An:=[]
theorem c15:cq Tp Try.f15 zwN=some A15:=by kernel_rfl
structure H15 (D:Den) (σ:Sig) (F:Nat):Prop where
 mk ::
abbrev R15 (r:Bool):(Nat→V)→Prop:=RR Tp [.tmp 4] 0 false (enc (r:Bool))
section
variable {r:Bool}
def Ye (F:Nat) (x1:TP) (x2:TP) :Nat→Int→Option Bool
 | 0,_=>none
 | k + 1,x5=>
   bif decide (x5 < (x1.length:Int)) then
    (idx x1 x5).bind fun v8=>
    (idx x2 x5).bind fun v9=>
    bif (!(v8.1 == v9.1 && v8.2 == v9.2)) then
     some false
    else
     (Ye F x1 x2 k) (w64 (x5 + 1))
   else
    some true
theorem zg8 (H:H15 D σ F) (x1:TP) (x2:TP) :∀ (k:Nat) (x5:Int) (s:Nat→V),zB [(0,eP x1),(1,eP x2),(4,jb false),(5,ji x5)] s→Ye F x1 x2 k x5=some r→Run D σ (R15 r) (.run zjS [.lp zjS,.bk 0,.sq zmB]) s:=by
 intro k
 induction k with
 | zero=>intro x5 s _ h;exact nm h
 | succ k ih=>
   intro x5 s hs h
   rw [Ye] at h
   obtain ⟨h0,h1,h4,h5⟩:=hs
   refine .seq (.seq (rg (gm h5 fun h11=>gm h0 fun h12=>gl x1 h12 fun h13=>g2 11 13 (jb (decide (x5 < (x1.length:Int)))) h11 h13 fun h14=>gq (.nsq (zu h14 h (fun h=>?_) (fun h=>?_))))))
   · refine .skip (.nsq (.seq (.block (.seq (rg (gm h0 fun h17=>gm h5 fun h18=>?_))))))
     obtain ⟨v8,Ev8,h⟩:=zd h
     refine gv (.ref .sh 0 [] (.agg [ji v8.1,ji v8.2])) (yG (t:=.sh) (lo:=0) (xs:=x1) h17 h18 Ev8 rfl rfl) fun h19=>g1 19 (.agg [ji v8.1,ji v8.2]) h19 fun h20=>gm h1 fun h21=>gm h5 fun h22=>?_
     obtain ⟨v9,Ev9,h⟩:=zd h
     refine gv (.ref .sh 0 [] (.agg [ji v9.1,ji v9.2])) (yG (t:=.sh) (lo:=0) (xs:=x2) h21 h22 Ev9 rfl rfl) fun h23=>g1 23 (.agg [ji v9.1,ji v9.2]) h23 fun h24=>g2 20 24 (jb (!(v8.1 == v9.1 && v8.2 == v9.2))) h20 h24 fun h25=>gq (.nsq (zu h25 h (fun h=>?_) (fun h=>?_)))
     · refine .seq (rg (g0 (jb false) fun h4=>gq (.nsq (.ret ?_))))
       obtain rfl:=oi h
       exact rrA (zA h4) rfl
     refine .skip (.nbk (.nsq (rg (gm h5 fun h15=>g1 15 (ji (w64 (x5 + 1))) h15 fun h16=>gm h16 fun h5=>gq (.nlp ?_)))))
     exact ih (w64 (x5 + 1)) _ ⟨h0,h1,h4,h5⟩ h
   refine .exit (.esq (.elp (.ebk (.nsq (.seq (rg (g0 (jb true) fun h4=>gq (.nsq (.ret ?_)))))))))
   obtain rfl:=oi h
   exact rrA (zA h4) rfl
def XB (F:Nat) (x1:TP) (x2:TP):Option Bool:=
 bif ((x1.length:Int) != (x2.length:Int)) then
  some false
 else
  Ye F x1 x2 F 0
theorem t15 (H:H15 D σ F) (x1:TP) (x2:TP) (s:Nat→V) (hs:zB [(0,eP x1),(1,eP x2)] s) (h:XB F x1 x2=some r):Run D σ (R15 r) (.run A15 []) s:=by
 unfold XB at h
 obtain ⟨h0,h1⟩:=hs
 refine .seq (rg (g0 (jb false) fun h4=>gq (.nsq (.seq (.seq (rg (gm h0 fun h6=>gl x1 h6 fun h7=>gm h1 fun h8=>gl x2 h8 fun h9=>g2 7 9 (jb ((x1.length:Int) != (x2.length:Int))) h7 h9 fun h10=>gq (.nsq (zu h10 h (fun h=>?_) (fun h=>?_))))))))))
 · refine .seq (rg (g0 (jb false) fun h4=>gq (.nsq (.ret ?_))))
   obtain rfl:=oi h
   exact rrA (zA h4) rfl
 refine .skip (.nsq (.seq (.seq (rg (g0 (ji 0) fun h5=>gq (.nsq (.block (.loop ?_))))))))
 exact zg8 H x1 x2 F 0 _ ⟨h0,h1,h4,h5⟩ h
end
def e15 (F:Nat):Ent:=ent 15 (fun (x:(TP×TP×Unit))=>XB F x.1 x.2.1) (fun (r:Bool)=>(enc (r:Bool))) 0 false []
abbrev C15 (D:List V→Option V) (F:Nat):Prop:=∀ (x0:TP) (x1:TP) r,XB F x0 x1=some r→D [enc x0,enc x1]=some (enc (r:Bool))
theorem p15 {F:Nat}:C15 (e15 F).den F:=fun x0 x1 _ h=>zZ (x0,x1,()) h
theorem o15 (hF:zH Tp D σ) (H:H15 D σ F):(e15 F).Ok Tp:=okZ (f:=15) Try.func15 fun ⟨x0,x1,_⟩ y hy=>cR hF Try.func15 c15 (t15 H x0 x1 _ ⟨rfl,rfl⟩ hy)
def zsZ:AC:=(.seq (rr [jm 32 0,jv 33 (.conv .i64 (.t 32)),jv 34 (.bin .and (.t 33) (jn 127)),jm 2 34]) .ret)
def zpZ:AC:=(.seq (rr [jm 28 0,jm 29 0,jv 30 (.bin .shr (.t 29) (.k (.int .u64 (.ofNat 32)))),jv 31 (.bin .add (.t 28) (.t 30)),jm 0 31]) zsZ)
def zsG:AC:=(.seq (rr [jm 24 0,jm 25 0,jv 26 (.bin .shr (.t 25) (.k (.int .u64 (.ofNat 16)))),jv 27 (.bin .add (.t 24) (.t 26)),jm 0 27]) zpZ)
def zvF:AC:=(.seq (rr [jm 20 0,jm 21 0,jv 22 (.bin .shr (.t 21) (.k (.int .u64 (.ofNat 8)))),jv 23 (.bin .add (.t 20) (.t 22)),jm 0 23]) zsG)
def zvA:AC:=(.seq (rr [jm 15 0,jv 16 (.bin .shr (.t 15) (.k (.int .u64 (.ofNat 4)))),jm 17 0,jv 18 (.bin .add (.t 16) (.t 17)),jv 19 (.bin .and (.t 18) (.k (.int .u64 (.ofNat 1085102592571150095)))),jm 0 19]) zvF)
def zuL:AC:=(.seq (rr [jm 9 0,jv 10 (.bin .shr (.t 9) (.k (.int .u64 (.ofNat 2)))),jv 11 (.bin .and (.t 10) (.k (.int .u64 (.ofNat 3689348814741910323)))),jm 12 0,jv 13 (.bin .and (.t 12) (.k (.int .u64 (.ofNat 3689348814741910323)))),jv 14 (.bin .add (.t 11) (.t 13)),jm 0 14]) zvA)
def zsp:AC:=(.seq (rr [jm 3 0,jv 4 (.bin .shr (.t 3) (.k (.int .u64 (.ofNat 1)))),jv 5 (.bin .and (.t 4) (.k (.int .u64 (.ofNat 6148914691236517205)))),jm 6 0,jv 7 (.bin .and (.t 6) (.k (.int .u64 (.ofNat 6148914691236517205)))),jv 8 (.bin .add (.t 5) (.t 7)),jm 0 8]) zuL)
def A68:AC:=(.seq (rr [jv 2 (.mov (jn 0))]) zsp)
def zvM:List An:=[]
theorem c68:cq Tp Try.f68 zvM=some A68:=by kernel_rfl
structure H68 (D:Den) (σ:Sig) (F:Nat):Prop where
 mk ::
abbrev R68 (r:Int):(Nat→V)→Prop:=RR Tp [.tmp 2] 0 false (enc (r:Int))
section
variable {r:Int}
def Zm (F:Nat) (x1:(Kd .u64)):Option Int:=
 (Um .u64 x1.v 1).bind fun q2=>
 (Um .u64 (IntKind.u64.wrap ((yI .u64 q2 6148914691236517205) + (yI .u64 x1.v 6148914691236517205))) 2).bind fun q3=>
 (Um .u64 (IntKind.u64.wrap ((yI .u64 q3 3689348814741910323) + (yI .u64 (IntKind.u64.wrap ((yI .u64 q2 6148914691236517205) + (yI .u64 x1.v 6148914691236517205))) 3689348814741910323))) 4).bind fun q4=>
 (Um .u64 (yI .u64 (IntKind.u64.wrap (q4 + (IntKind.u64.wrap ((yI .u64 q3 3689348814741910323) + (yI .u64 (IntKind.u64.wrap ((yI .u64 q2 6148914691236517205) + (yI .u64 x1.v 6148914691236517205))) 3689348814741910323))))) 1085102592571150095) 8).bind fun q5=>
 (Um .u64 (IntKind.u64.wrap ((yI .u64 (IntKind.u64.wrap (q4 + (IntKind.u64.wrap ((yI .u64 q3 3689348814741910323) + (yI .u64 (IntKind.u64.wrap ((yI .u64 q2 6148914691236517205) + (yI .u64 x1.v 6148914691236517205))) 3689348814741910323))))) 1085102592571150095) + q5)) 16).bind fun q6=>
 (Um .u64 (IntKind.u64.wrap ((IntKind.u64.wrap ((yI .u64 (IntKind.u64.wrap (q4 + (IntKind.u64.wrap ((yI .u64 q3 3689348814741910323) + (yI .u64 (IntKind.u64.wrap ((yI .u64 q2 6148914691236517205) + (yI .u64 x1.v 6148914691236517205))) 3689348814741910323))))) 1085102592571150095) + q5)) + q6)) 32).bind fun q7=>
 some (yI .i64 (w64 (IntKind.u64.wrap ((IntKind.u64.wrap ((IntKind.u64.wrap ((yI .u64 (IntKind.u64.wrap (q4 + (IntKind.u64.wrap ((yI .u64 q3 3689348814741910323) + (yI .u64 (IntKind.u64.wrap ((yI .u64 q2 6148914691236517205) + (yI .u64 x1.v 6148914691236517205))) 3689348814741910323))))) 1085102592571150095) + q5)) + q6)) + q7))) 127)
theorem t68 (H:H68 D σ F) (x1:(Kd .u64)) (s:Nat→V) (hs:zB [(0,.int .u64 x1.v)] s) (h:Zm F x1=some r):Run D σ (R68 r) (.run A68 []) s:=by
 unfold Zm at h
 have h0:=hs
 refine .seq (rg (g0 (ji 0) fun h2=>gq (.nsq (.seq (rg (gm h0 fun h3=>?_))))))
 obtain ⟨q2,Eq2,h⟩:=zd h
 refine gv (.int .u64 q2) (Wi h3 rfl Eq2) fun h4=>g1 4 (.int .u64 (yI .u64 q2 6148914691236517205)) h4 fun h5=>gm h0 fun h6=>g1 6 (.int .u64 (yI .u64 x1.v 6148914691236517205)) h6 fun h7=>g2 5 7 (.int .u64 (IntKind.u64.wrap ((yI .u64 q2 6148914691236517205) + (yI .u64 x1.v 6148914691236517205)))) h5 h7 fun h8=>gm h8 fun h0=>gq (.nsq (.seq (rg (gm h0 fun h9=>?_))))
 obtain ⟨q3,Eq3,h⟩:=zd h
 refine gv (.int .u64 q3) (Wi h9 rfl Eq3) fun h10=>g1 10 (.int .u64 (yI .u64 q3 3689348814741910323)) h10 fun h11=>gm h0 fun h12=>g1 12 (.int .u64 (yI .u64 (IntKind.u64.wrap ((yI .u64 q2 6148914691236517205) + (yI .u64 x1.v 6148914691236517205))) 3689348814741910323)) h12 fun h13=>g2 11 13 (.int .u64 (IntKind.u64.wrap ((yI .u64 q3 3689348814741910323) + (yI .u64 (IntKind.u64.wrap ((yI .u64 q2 6148914691236517205) + (yI .u64 x1.v 6148914691236517205))) 3689348814741910323)))) h11 h13 fun h14=>gm h14 fun h0=>gq (.nsq (.seq (rg (gm h0 fun h15=>?_))))
 obtain ⟨q4,Eq4,h⟩:=zd h
 refine gv (.int .u64 q4) (Wi h15 rfl Eq4) fun h16=>gm h0 fun h17=>g2 16 17 (.int .u64 (IntKind.u64.wrap (q4 + (IntKind.u64.wrap ((yI .u64 q3 3689348814741910323) + (yI .u64 (IntKind.u64.wrap ((yI .u64 q2 6148914691236517205) + (yI .u64 x1.v 6148914691236517205))) 3689348814741910323)))))) h16 h17 fun h18=>g1 18 (.int .u64 (yI .u64 (IntKind.u64.wrap (q4 + (IntKind.u64.wrap ((yI .u64 q3 3689348814741910323) + (yI .u64 (IntKind.u64.wrap ((yI .u64 q2 6148914691236517205) + (yI .u64 x1.v 6148914691236517205))) 3689348814741910323))))) 1085102592571150095)) h18 fun h19=>gm h19 fun h0=>gq (.nsq (.seq (rg (gm h0 fun h20=>gm h0 fun h21=>?_))))
 obtain ⟨q5,Eq5,h⟩:=zd h
 refine gv (.int .u64 q5) (Wi h21 rfl Eq5) fun h22=>g2 20 22 (.int .u64 (IntKind.u64.wrap ((yI .u64 (IntKind.u64.wrap (q4 + (IntKind.u64.wrap ((yI .u64 q3 3689348814741910323) + (yI .u64 (IntKind.u64.wrap ((yI .u64 q2 6148914691236517205) + (yI .u64 x1.v 6148914691236517205))) 3689348814741910323))))) 1085102592571150095) + q5))) h20 h22 fun h23=>gm h23 fun h0=>gq (.nsq (.seq (rg (gm h0 fun h24=>gm h0 fun h25=>?_))))
 obtain ⟨q6,Eq6,h⟩:=zd h
 refine gv (.int .u64 q6) (Wi h25 rfl Eq6) fun h26=>g2 24 26 (.int .u64 (IntKind.u64.wrap ((IntKind.u64.wrap ((yI .u64 (IntKind.u64.wrap (q4 + (IntKind.u64.wrap ((yI .u64 q3 3689348814741910323) + (yI .u64 (IntKind.u64.wrap ((yI .u64 q2 6148914691236517205) + (yI .u64 x1.v 6148914691236517205))) 3689348814741910323))))) 1085102592571150095) + q5)) + q6))) h24 h26 fun h27=>gm h27 fun h0=>gz [(0,_),(2,_)] ⟨h0,h2⟩ ?_
 rintro s ⟨h0,h2⟩
 refine .nsq (.seq (rg (gm h0 fun h28=>gm h0 fun h29=>?_)))
 obtain ⟨q7,Eq7,h⟩:=zd h
 refine gv (.int .u64 q7) (Wi h29 rfl Eq7) fun h30=>g2 28 30 (.int .u64 (IntKind.u64.wrap ((IntKind.u64.wrap ((IntKind.u64.wrap ((yI .u64 (IntKind.u64.wrap (q4 + (IntKind.u64.wrap ((yI .u64 q3 3689348814741910323) + (yI .u64 (IntKind.u64.wrap ((yI .u64 q2 6148914691236517205) + (yI .u64 x1.v 6148914691236517205))) 3689348814741910323))))) 1085102592571150095) + q5)) + q6)) + q7))) h28 h30 fun h31=>?_
 refine gm h31 fun h0=>gq (.nsq (.seq (rg (gm h0 fun h32=>g1 32 (ji (w64 (IntKind.u64.wrap ((IntKind.u64.wrap ((IntKind.u64.wrap ((yI .u64 (IntKind.u64.wrap (q4 + (IntKind.u64.wrap ((yI .u64 q3 3689348814741910323) + (yI .u64 (IntKind.u64.wrap ((yI .u64 q2 6148914691236517205) + (yI .u64 x1.v 6148914691236517205))) 3689348814741910323))))) 1085102592571150095) + q5)) + q6)) + q7)))) h32 fun h33=>?_))))
 refine g1 33 (ji (yI .i64 (w64 (IntKind.u64.wrap ((IntKind.u64.wrap ((IntKind.u64.wrap ((yI .u64 (IntKind.u64.wrap (q4 + (IntKind.u64.wrap ((yI .u64 q3 3689348814741910323) + (yI .u64 (IntKind.u64.wrap ((yI .u64 q2 6148914691236517205) + (yI .u64 x1.v 6148914691236517205))) 3689348814741910323))))) 1085102592571150095) + q5)) + q6)) + q7))) 127)) h33 fun h34=>gm h34 fun h2=>gq (.nsq (.ret ?_))
 obtain rfl:=oi h
 exact rrA (zA h2) rfl
end
def e68 (F:Nat):Ent:=ent 68 (fun (x:((Kd .u64)×Unit))=>Zm F x.1) (fun (r:Int)=>(enc (r:Int))) 0 false []
abbrev C68 (D:List V→Option V) (F:Nat):Prop:=∀ (x0:(Kd .u64)) r,Zm F x0=some r→D [enc x0]=some (enc (r:Int))
theorem p68 {F:Nat}:C68 (e68 F).den F:=fun x0 _ h=>zZ (x0,()) h
theorem o68 {D:Den} {σ:Sig} {F:Nat} (hF:zH Tp D σ) (H:H68 D σ F):(e68 F).Ok Tp:=by
 refine zes (f:=68) (show unk 68=68 from rfl) (fun args r h=>?_) ⟨Try.f68,Try.func68,rfl,rfl⟩
 obtain ⟨⟨x0,_⟩,y,rfl,hy,rfl⟩:=MM h
 exact Je hF (by kernel_rfl) Try.func68 rfl c68 (show 1≤Try.f68.ntmps by decide) (t68 H x0 _ rfl hy)
def zvs:AC:=(.seq (rr [jm 6 0,jx 7 (.call (jf 68) [.t 6]),jm 2 7]) .ret)
def zt2:AC:=(.seq (.cond kf (.seq (rr [jm 3 0,jv 4 (.conv .u32 (.t 3)),jx 5 (.call (jf 67) [.t 4]),jm 2 5]) .ret) .skip) zvs)
def A38:AC:=(.seq (rr [jv 2 (.mov (jn 0))]) zt2)
def zwK:List An:=[]
theorem c38:cq Tp Try.f38 zwK=some A38:=by kernel_rfl
structure H38 (D:Den) (σ:Sig) (F:Nat):Prop where
 c68:C68 (D 68) F
 g68:σ 68=some (0,false)
abbrev R38 (r:Int):(Nat→V)→Prop:=RR Tp [.tmp 2] 0 false (enc (r:Int))
section
variable {r:Int}
def vw (F:Nat) (x1:(Kd .u64)):Option Int:=
 (Zm F (Kd.mk x1.v:Kd .u64)).bind fun r2=>
 some r2
theorem t38 (H:H38 D σ F) (x1:(Kd .u64)) (s:Nat→V) (hs:zB [(0,.int .u64 x1.v)] s) (h:vw F x1=some r):Run D σ (R38 r) (.run A38 []) s:=by
 unfold vw at h
 have h0:=hs
 refine .seq (rg (g0 (ji 0) fun h2=>gq (.nsq (.seq (zgt rfl (.skip (.nsq (.seq (rg (gm h0 fun h6=>?_))))))))))
 obtain ⟨r2,Er2,h⟩:=zd h
 refine gcF [enc ((Kd.mk x1.v:Kd .u64):(Kd .u64))] (zl h6 rfl rfl zJ) (H.c68 _ _ Er2) H.g68 (gm (rf (ji r2)) fun h2=>gq (.nsq (.ret ?_)))
 obtain rfl:=oi h
 exact rrA (zA h2) rfl
end
def e38 (F:Nat):Ent:=ent 38 (fun (x:((Kd .u64)×Unit))=>vw F x.1) (fun (r:Int)=>(enc (r:Int))) 0 false []
abbrev C38 (D:List V→Option V) (F:Nat):Prop:=∀ (x0:(Kd .u64)) r,vw F x0=some r→D [enc x0]=some (enc (r:Int))
theorem p38 {F:Nat}:C38 (e38 F).den F:=fun x0 _ h=>zZ (x0,()) h
theorem o38 {D:Den} {σ:Sig} {F:Nat} (hF:zH Tp D σ) (H:H38 D σ F):(e38 F).Ok Tp:=by
 refine zes (f:=38) (show unk 38=38 from rfl) (fun args r h=>?_) ⟨Try.f38,Try.func38,rfl,rfl⟩
 obtain ⟨⟨x0,_⟩,y,rfl,hy,rfl⟩:=MM h
 exact Je hF (by kernel_rfl) Try.func38 rfl c38 (show 1≤Try.f38.ntmps by decide) (t38 H x0 _ rfl hy)
def zuA:AC:=(.cond (.t 21) (.exit 0) .skip)
def zuk:AC:=(rr [jm 22 8,jm 7 22])
def zq9:AC:=(.seq (.seq (rr [jm 19 8,jm 20 7,jv 21 (.bin .eql (.t 19) (.t 20))]) zuA) zuk)
def zj6:AC:=(.block 1 (.seq (rr [jv 11 (.load (.ag [.p]) (.t 3)),jm 12 7,jm 13 1,jm 14 2,jv 15 (.bin .shl (jn 1) (.t 14)),jv 16 (.bin .or (.t 13) (.t 15)),jv 17 (.bin .and (.t 12) (.t 16)),jx 18 (.call (jf 76) [.t 11,.t 17]),jm 8 18]) zq9))
def zmq:AC:=(.seq (rr [jm 23 7,jm 24 1,jv 25 (.bin .andNot (.t 23) (.t 24)),jm 26 2,jv 27 (.bin .shl (jn 1) (.t 26)),jv 28 (.bin .andNot (.t 25) (.t 27)),jv 29 (.conv .u64 (.t 28)),jx 30 (.call (jf 38) [.t 29]),jm 6 30]) .ret)
def zr7:AC:=(.seq (.block 0 (.loop zj6)) zmq)
def zrI:AC:=(.seq (rr [jm 9 2,jv 10 (.bin .shl (jn 1) (.t 9)),jm 7 10]) zr7)
def A85:AC:=(.seq (.reg [.clr [3]] [jx 3 (.box (.t 0)),jv 6 (.mov (jn 0))] []) zrI)
def zxA:List An:=[⟨0,[.clr [3]],[],[],[]⟩]
theorem c85:cq Tp Try.f85 zxA=some A85:=by kernel_rfl
structure H85 (D:Den) (σ:Sig) (F:Nat):Prop where
 c76:C76 (D 76) F
 g76:σ 76=some (0,false)
 c38:C38 (D 38) F
 g38:σ 38=some (0,false)
abbrev R85 (r:Int):(Nat→V)→Prop:=RR Tp [.tmp 6] 0 false (enc (r:Int))
section
variable {r:Int}
def wz (F:Nat) (x2:Int) (x3:Int) (x1:(S1 LI)) :Nat→Int→Option Int
 | 0,_=>none
 | k + 1,x7=>
   (Uv .i64 1 x3).bind fun q10=>
   (uJ F x1 (yI .i64 x7 (ior .i64 x2 q10))).bind fun r11=>
   bif (r11 == x7) then
    (Uv .i64 1 x3).bind fun q12=>
    (vw F (Kd.mk (IntKind.u64.wrap (yx .i64 (yx .i64 x7 x2) q12)):Kd .u64)).bind fun r13=>
    some r13
   else
    (wz F x2 x3 x1 k) r11
theorem zjH (H:H85 D σ F) (x2:Int) (x3:Int) (x1:(S1 LI)) :∀ (k:Nat) (x7:Int) (s:Nat→V),zB [(1,ji x2),(2,ji x3),(3,.ref (.bx 3) 0 [] (.agg [eL x1.a])),(6,ji 0),(7,ji x7)] s→wz F x2 x3 x1 k x7=some r→Run D σ (R85 r) (.run zj6 [.lp zj6,.bk 0,.sq zmq]) s:=by
 intro k
 induction k with
 | zero=>intro x7 s _ h;exact nm h
 | succ k ih=>
   intro x7 s hs h
   rw [wz] at h
   obtain ⟨h1,h2,h3,h6,h7⟩:=hs
   refine .block (.seq (rg (g1 3 (.agg [eL x1.a]) h3 fun h11=>gm h7 fun h12=>gm h1 fun h13=>gm h2 fun h14=>?_)))
   obtain ⟨q10,Eq10,h⟩:=zd h
   refine gv (ji q10) (Y1 rfl h14 Eq10) fun h15=>g2 13 15 (ji (ior .i64 x2 q10)) h13 h15 fun h16=>g2 12 16 (ji (yI .i64 x7 (ior .i64 x2 q10))) h12 h16 fun h17=>?_
   obtain ⟨r11,Er11,h⟩:=zd h
   refine gcF [enc (x1:(S1 LI)),enc (yI .i64 x7 (ior .i64 x2 q10):Int)] (zl h11 rfl (erase_enc (x1:(S1 LI))) (zl h17 rfl rfl zJ)) (H.c76 _ _ _ Er11) H.g76 (gm (rf (ji r11)) fun h8=>gq (.nsq (.seq (.seq (rg (gm h8 fun h19=>gm h7 fun h20=>g2 19 20 (jb (r11 == x7)) h19 h20 fun h21=>gq (.nsq (zu h21 h (fun h=>?_) (fun h=>?_)))))))))
   · refine .exit (.esq (.ebn (by decide) (.elp (.ebk (.nsq (.seq (rg (gm h7 fun h23=>gm h1 fun h24=>g2 23 24 (ji (yx .i64 x7 x2)) h23 h24 fun h25=>gm h2 fun h26=>?_))))))))
     obtain ⟨q12,Eq12,h⟩:=zd h
     refine gv (ji q12) (Y1 rfl h26 Eq12) fun h27=>g2 25 27 (ji (yx .i64 (yx .i64 x7 x2) q12)) h25 h27 fun h28=>g1 28 (.int .u64 (IntKind.u64.wrap (yx .i64 (yx .i64 x7 x2) q12))) h28 fun h29=>?_
     obtain ⟨r13,Er13,h⟩:=zd h
     refine gcF [enc ((Kd.mk (IntKind.u64.wrap (yx .i64 (yx .i64 x7 x2) q12)):Kd .u64):(Kd .u64))] (zl h29 rfl rfl zJ) (H.c38 _ _ Er13) H.g38 (gm (rf (ji r13)) fun h6=>gq (.nsq (.ret ?_)))
     obtain rfl:=oi h
     exact rrA (zA h6) rfl
   refine .skip (.nsq (rg (gm h8 fun h22=>gm h22 fun h7=>gq (.nbk (.nlp ?_)))))
   exact ih r11 _ ⟨h1,h2,h3,h6,h7⟩ h
def vp (F:Nat) (x1:(S1 LI)) (x2:Int) (x3:Int):Option Int:=
 (Uv .i64 1 x3).bind fun q4=>
 wz F x2 x3 x1 F q4
theorem t85 (H:H85 D σ F) (x1:(S1 LI)) (x2:Int) (x3:Int) (s:Nat→V) (hs:zB [(0,.agg [eL x1.a]),(1,ji x2),(2,ji x3)] s) (h:vp F x1 x2 x3=some r):Run D σ (R85 r) (.run A85 []) s:=by
 unfold vp at h
 obtain ⟨h0,h1,h2⟩:=hs
 refine .seq (zC (yc ?_))
 refine ez [(0,_),(1,_),(2,_),(3,_)] ⟨za h0 rfl (zr (zc me zk)),za h1 rfl mi,za h2 rfl mi,zg rfl⟩ ?_
 rintro s ⟨h0,h1,h2,h3⟩
 refine xU (.agg [eL x1.a]) (zx h0 rfl) h3 rfl (g0 (ji 0) fun h6=>gq (.nsq (.seq (rg (gm h2 fun h9=>?_)))))
 obtain ⟨q4,Eq4,h⟩:=zd h
 refine gv (ji q4) (Y1 rfl h9 Eq4) fun h10=>gm h10 fun h7=>gq (.nsq (.seq (.block (.loop ?_))))
 exact zjH H x2 x3 x1 F q4 _ ⟨h1,h2,rfl,h6,h7⟩ h
end
def e85 (F:Nat):Ent:=ent 85 (fun (x:((S1 LI)×Int×Int×Unit))=>vp F x.1 x.2.1 x.2.2.1) (fun (r:Int)=>(enc (r:Int))) 0 false []
abbrev C85 (D:List V→Option V) (F:Nat):Prop:=∀ (x0:(S1 LI)) (x1:Int) (x2:Int) r,vp F x0 x1 x2=some r→D [enc x0,enc x1,enc x2]=some (enc (r:Int))
theorem p85 {F:Nat}:C85 (e85 F).den F:=fun x0 x1 x2 _ h=>zZ (x0,x1,x2,()) h
theorem o85 (hF:zH Tp D σ) (H:H85 D σ F):(e85 F).Ok Tp:=okZ (f:=85) Try.func85 fun ⟨x0,x1,x2,_⟩ y hy=>cR hF Try.func85 c85 (t85 H x0 x1 x2 _ ⟨rfl,rfl,rfl⟩ hy)
def zks:AC:=(.cond (.t 19) .skip (.exit 0))
def zci:AC:=(.cond (.t 58) (rr [jm 59 7,jm 60 8,jm 61 11,jv 62 (.idx (.t 59) (.t 60) 1),jz (.store .s (.t 62) (.t 61))]) .skip)
def zkd:AC:=(.seq (rr [jm 49 9,jv 50 (.bin .eql (.t 49) (jn 0)),jm 51 50,jg 52 51 false (.mov (.t 11)),jg 53 51 false (.mov (.t 7)),jg 54 51 false (.mov (.t 8)),jg 55 51 false (.idx (.t 53) (.t 54) 1),jg 56 51 false (.load .s (.t 55)),jg 57 51 false (.bin .lss (.t 52) (.t 56)),jv 58 (.pick (.t 51) kt (.t 57))]) zci)
def zlB:AC:=(.seq (rr [jm 37 2,jm 38 8,jm 39 10,jx 40 (.call (.t 37) [.t 38,.t 39]),jm 41 7,jm 42 8,jm 43 10,jv 44 (.bin .shl (jn 1) (.t 43)),jv 45 (.bin .or (.t 42) (.t 44)),jv 46 (.idx (.t 41) (.t 45) 1),jl 47 46,jv 48 (.mx [.t 40,.t 47]),jm 11 48]) zkd)
def MY:AC:=(rr [jv 63 (.bin .add (.t 32) (jn 1)),jm 32 63])
def zkN:AC:=(.seq (.block 3 (.seq (rr [jm 34 32,jv 35 (.idx (.t 30) (.t 32) 1),jl 36 35,jm 9 34,jm 10 36]) zlB)) MY)
def zlf:AC:=(.seq (.cond (.t 33) .skip (.exit 2)) zkN)
def Wz:AC:=(.seq (rr [jv 33 (.bin .lss (.t 32) (.t 31))]) zlf)
def zkq:AC:=(.block 2 (.loop Wz))
def zk8:AC:=(.seq (rr [jv 26 (.load (.ag [.p]) (.t 3)),jx 27 (.call (jf 61) [.t 26]),jm 28 8,jv 29 (.bin .andNot (.t 27) (.t 28)),jx 30 (.call (jf 31) [.t 29]),jk 31 30,jv 32 (.mov (jn 0))]) zkq)
def UU:AC:=(rr [jm 20 8,jv 21 (.bin .sub (.t 20) (jn 1)),jm 8 21])
def zkr:AC:=(.seq (.block 1 (.seq (rr [jm 22 7,jm 23 8,jm 24 1,jv 25 (.idx (.t 22) (.t 23) 1),jz (.store .s (.t 25) (.t 24))]) zk8)) UU)
def ZV:AC:=(.seq (.seq (rr [jm 18 8,jv 19 (.bin .geq (.t 18) (jn 0))]) zks) zkr)
def YB:AC:=(.seq (.reg [] [jm 64 7,jm 6 64] [.home 7 6]) .ret)
def zi9:AC:=(.block 0 (.loop ZV))
def zi3:AC:=(.seq (.seq (rr [jv 16 (.load (.ag [.p]) (.t 3)),jx 17 (.call (jf 61) [.t 16]),jm 8 17]) zi9) YB)
def zjA:AC:=(.seq (.reg [.clr [15]] [jv 12 (.load (.ag [.p]) (.t 3)),jx 13 (.call (jf 61) [.t 12]),jv 14 (.bin .add (.t 13) (jn 1)),jx 15 (.mk (.t 14) i0 i0),jm 7 15] [.home 15 7]) zi3)
def zmP:AC:=(.seq (.reg [.clr [3]] [jx 3 (.box (.t 0)),jv 6 (.mov (.k (.sl .nl .s 0 [])))] []) zjA)
def zpo:List An:=[⟨0,[.clr [3]],[],[],[]⟩,⟨1,[.clr [15]],[],[],[.home 15 7]⟩,⟨13,[],[],[],[.home 7 6]⟩]
theorem c84s1:cq Tp Try.f84 zpo=some zmP:=by kernel_rfl
structure QJ (D:Den) (σ:Sig) (F:Nat):Prop where
 c61:C61 (D 61) F
 g61:σ 61=some (0,false)
 c31:C31 (D 31) F
 g31:σ 31=some (0,false)
 c85:C85 (D 85) F
 g85:σ 85=some (0,false)
abbrev KH (r:LI):(Nat→V)→Prop:=RR Tp [.tmp 6] 0 false (eL r)
section
variable {r:LI}
def xb (F:Nat) (x2:Int) (x3:(Cl 85 ((S1 LI)×Unit) Unit)) (x1:(S1 LI)) (x43:Int) (r81:LI) (x93:Int) (c1:LI→Int→Option LI) (c4:LI→Int→Option LI) (x111:LI):Option LI:=
 c4 x111 (w64 (x93 + 1))
theorem NN (H:QJ D σ F) (x2:Int) (x3:(Cl 85 ((S1 LI)×Unit) Unit)) (x1:(S1 LI)) (x43:Int) (r81:LI) (x93:Int) (c1:LI→Int→Option LI) (Hc1:∀ (x42:LI) (x43:Int) (s:Nat→V),zB [(1,ji x2),(2,.fn 85 [.agg [eL x3.fs.1.a]] []),(3,.ref (.bx 3) 0 [] (.agg [eL x1.a])),(6,nI),(7,oI 7 [] (.of x42)),(8,ji x43)] s→c1 x42 x43=some r→Run D σ (KH r) (.run ZV [.lp ZV,.bk 0,.sq YB]) s) (c4:LI→Int→Option LI) (Hc4:∀ (x92:LI) (x93:Int) (s:Nat→V),zB [(1,ji x2),(2,.fn 85 [.agg [eL x3.fs.1.a]] []),(3,.ref (.bx 3) 0 [] (.agg [eL x1.a])),(6,nI),(7,oI 7 [] (.of x92)),(8,ji x43),(30,eL r81),(31,ji (r81.length:Int)),(32,ji x93)] s→c4 x92 x93=some r→Run D σ (KH r) (.run Wz [.lp Wz,.bk 2,.bk 1,.sq UU,.lp ZV,.bk 0,.sq YB]) s) (x111:LI) (s:Nat→V) (hs:zB [(1,ji x2),(2,.fn 85 [.agg [eL x3.fs.1.a]] []),(3,.ref (.bx 3) 0 [] (.agg [eL x1.a])),(6,nI),(7,oI 7 [] (.of x111)),(8,ji x43),(30,eL r81),(31,ji (r81.length:Int)),(32,ji x93)] s) (h:xb F x2 x3 x1 x43 r81 x93 c1 c4 x111=some r):Run D σ (KH r) (.nrm [.bk 3,.sq MY,.lp Wz,.bk 2,.bk 1,.sq UU,.lp ZV,.bk 0,.sq YB]) s:=by
 unfold xb at h
 obtain ⟨h1,h2,h3,h6,h7,h8,h30,h31,h32⟩:=hs
 refine .nbk (.nsq (rg (g1 32 (ji (w64 (x93 + 1))) h32 fun h63=>gm h63 fun h32=>gq (.nlp ?_))))
 exact Hc4 x111 (w64 (x93 + 1)) _ ⟨h1,h2,h3,h6,h7,h8,h30,h31,h32⟩ h
def xa (F:Nat) (x2:Int) (x3:(Cl 85 ((S1 LI)×Unit) Unit)) (x1:(S1 LI)) (x92:LI) (x43:Int) (v107:Int) (r105:Int) (r81:LI) (x93:Int) (c1:LI→Int→Option LI) (c4:LI→Int→Option LI) (x109:Bool):Option LI:=
 bif x109 then
  (idx x92 x43).bind fun v112=>
  xb F x2 x3 x1 x43 r81 x93 c1 c4 (x92.set x43.toNat (if v107 > r105 then v107 else r105))
 else
  xb F x2 x3 x1 x43 r81 x93 c1 c4 x92
theorem NF (H:QJ D σ F) (x2:Int) (x3:(Cl 85 ((S1 LI)×Unit) Unit)) (x1:(S1 LI)) (x92:LI) (x43:Int) (v107:Int) (r105:Int) (r81:LI) (x93:Int) (c1:LI→Int→Option LI) (Hc1:∀ (x42:LI) (x43:Int) (s:Nat→V),zB [(1,ji x2),(2,.fn 85 [.agg [eL x3.fs.1.a]] []),(3,.ref (.bx 3) 0 [] (.agg [eL x1.a])),(6,nI),(7,oI 7 [] (.of x42)),(8,ji x43)] s→c1 x42 x43=some r→Run D σ (KH r) (.run ZV [.lp ZV,.bk 0,.sq YB]) s) (c4:LI→Int→Option LI) (Hc4:∀ (x92:LI) (x93:Int) (s:Nat→V),zB [(1,ji x2),(2,.fn 85 [.agg [eL x3.fs.1.a]] []),(3,.ref (.bx 3) 0 [] (.agg [eL x1.a])),(6,nI),(7,oI 7 [] (.of x92)),(8,ji x43),(30,eL r81),(31,ji (r81.length:Int)),(32,ji x93)] s→c4 x92 x93=some r→Run D σ (KH r) (.run Wz [.lp Wz,.bk 2,.bk 1,.sq UU,.lp ZV,.bk 0,.sq YB]) s) (x109:Bool) (s:Nat→V) (hs:zB [(1,ji x2),(2,.fn 85 [.agg [eL x3.fs.1.a]] []),(3,.ref (.bx 3) 0 [] (.agg [eL x1.a])),(6,nI),(7,oI 7 [] (.of x92)),(8,ji x43),(11,ji (if v107 > r105 then v107 else r105)),(30,eL r81),(31,ji (r81.length:Int)),(32,ji x93),(58,jb x109)] s) (h:xa F x2 x3 x1 x92 x43 v107 r105 r81 x93 c1 c4 x109=some r):Run D σ (KH r) (.nrm [.sq zci,.bk 3,.sq MY,.lp Wz,.bk 2,.bk 1,.sq UU,.lp ZV,.bk 0,.sq YB]) s:=by
 unfold xa at h
 obtain ⟨h1,h2,h3,h6,h7,h8,h11,h30,h31,h32,h58⟩:=hs
 refine .nsq (zu h58 h (fun h=>?_) (fun h=>?_))
 · refine rg (gm h7 fun h59=>gm h8 fun h60=>gm h11 fun h61=>?_)
   obtain ⟨v112,Ev112,h⟩:=zd h
   refine gv (.ref (.at 7 []) x43.toNat [] (ji v112)) (vi (o:=.of x92) h59 h60 Ev112 rfl) fun h62=>zQ (ji (if v107 > r105 then v107 else r105)) (zx h62 rfl) (zx h61 rfl) (xr (by first | rfl | simp [V.toks,V.tokss,toks_enc,zN])) ?_
   refine gz [(1,ji x2),(2,.fn 85 [.agg [eL x3.fs.1.a]] []),(3,.ref (.bx 3) 0 [] (.agg [eL x1.a])),(6,nI),(7,_),(8,ji x43),(30,eL r81),(31,ji (r81.length:Int)),(32,ji x93)] ⟨zb h1 rfl,zb h2 (zhr (zf (zK (zf uE rfl)) rfl) rfl),zb h3 (zj rfl rfl (zK (zf uE rfl))),zb h6 rfl,zb h7 Kl,zb h8 rfl,zb h30 uE,zb h31 rfl,zb h32 rfl⟩ ?_
   rintro s ⟨h1,h2,h3,h6,h7,h8,h30,h31,h32⟩
   exact NN H x2 x3 x1 x43 r81 x93 c1 Hc1 c4 Hc4 (x92.set x43.toNat (if v107 > r105 then v107 else r105)) _ ⟨h1,h2,h3,h6,h7,h8,h30,h31,h32⟩ h
 refine .skip ?_
 exact NN H x2 x3 x1 x43 r81 x93 c1 Hc1 c4 Hc4 x92 _ ⟨h1,h2,h3,h6,h7,h8,h30,h31,h32⟩ h
def zY (F:Nat) (x2:Int) (x3:(Cl 85 ((S1 LI)×Unit) Unit)) (x1:(S1 LI)) (x43:Int) (r81:LI) (c1:LI→Int→Option LI):Nat→LI→Int→Option LI
 | 0,_,_=>none
 | k + 1,x92,x93=>
   bif decide (x93 < (r81.length:Int)) then
    (idx r81 x93).bind fun v104=>
    (vp F x3.fs.1 x43 v104).bind fun r105=>
    (Uv .i64 1 v104).bind fun q106=>
    (idx x92 (ior .i64 x43 q106)).bind fun v107=>
    bif (x93 == 0) then
     xa F x2 x3 x1 x92 x43 v107 r105 r81 x93 c1 (zY F x2 x3 x1 x43 r81 c1 k) true
    else
     (idx x92 x43).bind fun v113=>
     xa F x2 x3 x1 x92 x43 v107 r105 r81 x93 c1 (zY F x2 x3 x1 x43 r81 c1 k) (decide ((if v107 > r105 then v107 else r105) < v113))
   else
    c1 x92 (w64 (x43 - 1))
theorem zdT (H:QJ D σ F) (x2:Int) (x3:(Cl 85 ((S1 LI)×Unit) Unit)) (x1:(S1 LI)) (x43:Int) (r81:LI) (c1:LI→Int→Option LI) (Hc1:∀ (x42:LI) (x43:Int) (s:Nat→V),zB [(1,ji x2),(2,.fn 85 [.agg [eL x3.fs.1.a]] []),(3,.ref (.bx 3) 0 [] (.agg [eL x1.a])),(6,nI),(7,oI 7 [] (.of x42)),(8,ji x43)] s→c1 x42 x43=some r→Run D σ (KH r) (.run ZV [.lp ZV,.bk 0,.sq YB]) s):∀ (k:Nat) (x92:LI) (x93:Int) (s:Nat→V),zB [(1,ji x2),(2,.fn 85 [.agg [eL x3.fs.1.a]] []),(3,.ref (.bx 3) 0 [] (.agg [eL x1.a])),(6,nI),(7,oI 7 [] (.of x92)),(8,ji x43),(30,eL r81),(31,ji (r81.length:Int)),(32,ji x93)] s→zY F x2 x3 x1 x43 r81 c1 k x92 x93=some r→Run D σ (KH r) (.run Wz [.lp Wz,.bk 2,.bk 1,.sq UU,.lp ZV,.bk 0,.sq YB]) s:=by
 intro k
 induction k with
 | zero=>intro x92 x93 s _ h;exact nm h
 | succ k ih=>
   intro x92 x93 s hs h
   rw [zY] at h
   obtain ⟨h1,h2,h3,h6,h7,h8,h30,h31,h32⟩:=hs
   refine .seq (rg (g2 32 31 (jb (decide (x93 < (r81.length:Int)))) h32 h31 fun h33=>gq (.nsq (.seq (zu h33 h (fun h=>?_) (fun h=>?_))))))
   · refine .skip (.nsq (.seq (.block (.seq (rg (gm h32 fun h34=>?_))))))
     obtain ⟨v104,Ev104,h⟩:=zd h
     refine gv (.ref .sh 0 [] (ji v104)) (yG (t:=.sh) (lo:=0) (xs:=r81) h30 h32 Ev104 rfl rfl) fun h35=>g1 35 (ji v104) h35 fun h36=>gm h34 fun h9=>gm h36 fun h10=>gq (.nsq (.seq (rg (gm h2 fun h37=>gm h8 fun h38=>gm h10 fun h39=>?_))))
     obtain ⟨r105,Er105,h⟩:=zd h
     refine MV (m:=0) (al:=false) (r:=enc (r105:Int)) (fs:=[.agg [eL x3.fs.1.a]]) (env:=[]) (us:=[enc (x3.fs.1:(S1 LI))]) (ws:=[]) h37 (vg (erase_enc (x3.fs.1:(S1 LI))) xD) xD rfl [enc (x43:Int),enc (v104:Int)] (zl h38 rfl rfl (zl h39 rfl rfl zJ)) (H.c85 _ _ _ _ Er105) H.g85 rfl rfl rfl rfl (gm h7 fun h41=>gm h8 fun h42=>gm h10 fun h43=>?_)
     obtain ⟨q106,Eq106,h⟩:=zd h
     refine gv (ji q106) (Y1 rfl h43 Eq106) fun h44=>g2 42 44 (ji (ior .i64 x43 q106)) h42 h44 fun h45=>?_
     obtain ⟨v107,Ev107,h⟩:=zd h
     refine gv (.ref (.at 7 []) ((ior .i64 x43 q106).toNat) [] (ji v107)) (vi (o:=.of x92) h41 h45 Ev107 rfl) fun h46=>g1 46 (ji v107) h46 fun h47=>g2 40 47 (ji (if v107 > r105 then v107 else r105)) (rf (ji r105)) h47 fun h48=>gm h48 fun h11=>gq (.nsq (.seq (rg (gm h9 fun h49=>g1 49 (jb (x93 == 0)) h49 fun h50=>gm h50 fun h51=>yd h (fun hg3 h=>?_) (fun hg3 h=>?_)))))
     · iterate 6 refine yq (ct h51 hg3) ?_
       refine g2 51 57 (jb true) (ct h51 hg3) (rf (.tup [])) fun h58=>gz [(1,_),(2,_),(3,_),(6,_),(7,_),(8,_),(11,_),(30,_),(31,_),(32,_),(58,_)] ⟨h1,h2,h3,h6,h7,h8,h11,h30,h31,h32,h58⟩ ?_
       rintro s ⟨h1,h2,h3,h6,h7,h8,h11,h30,h31,h32,h58⟩
       exact NF H x2 x3 x1 x92 x43 v107 r105 r81 x93 c1 Hc1 (zY F x2 x3 x1 x43 r81 c1 k) ih true _ ⟨h1,h2,h3,h6,h7,h8,h11,h30,h31,h32,h58⟩ h
     refine zt (ct h51 hg3) (gm h11 fun h52=>zt (ct h51 hg3) (gm h7 fun h53=>zt (ct h51 hg3) (gm h8 fun h54=>?_)))
     obtain ⟨v113,Ev113,h⟩:=zd h
     refine zt (ct h51 hg3) (gv (.ref (.at 7 []) x43.toNat [] (ji v113)) (vi (o:=.of x92) h53 h54 Ev113 rfl) fun h55=>zt (ct h51 hg3) (g1 55 (ji v113) h55 fun h56=>zt (ct h51 hg3) (g2 52 56 (jb (decide ((if v107 > r105 then v107 else r105) < v113))) h52 h56 fun h57=>g2 51 57 (jb (decide ((if v107 > r105 then v107 else r105) < v113))) (ct h51 hg3) h57 fun h58=>gz [(1,_),(2,_),(3,_),(6,_),(7,_),(8,_),(11,_),(30,_),(31,_),(32,_),(58,_)] ⟨h1,h2,h3,h6,h7,h8,h11,h30,h31,h32,h58⟩ ?_)))
     rintro s ⟨h1,h2,h3,h6,h7,h8,h11,h30,h31,h32,h58⟩
     exact NF H x2 x3 x1 x92 x43 v107 r105 r81 x93 c1 Hc1 (zY F x2 x3 x1 x43 r81 c1 k) ih (decide ((if v107 > r105 then v107 else r105) < v113)) _ ⟨h1,h2,h3,h6,h7,h8,h11,h30,h31,h32,h58⟩ h
   refine .exit (.esq (.elp (.ebk (.nbk (.nsq (rg (gm h8 fun h20=>g1 20 (ji (w64 (x43 - 1))) h20 fun h21=>gm h21 fun h8=>gq (.nlp ?_))))))))
   exact Hc1 x92 (w64 (x43 - 1)) _ ⟨h1,h2,h3,h6,h7,h8⟩ h
def zS (F:Nat) (x2:Int) (x3:(Cl 85 ((S1 LI)×Unit) Unit)) (x1:(S1 LI)) :Nat→LI→Int→Option LI
 | 0,_,_=>none
 | k + 1,x42,x43=>
   bif decide (x43≥0) then
    (idx x42 x43).bind fun v79=>
    (vn F x1).bind fun r80=>
    (Xp F (yx .i64 r80 x43)).bind fun r81=>
    zY F x2 x3 x1 x43 r81 (zS F x2 x3 x1 k) F (x42.set x43.toNat x2) 0
   else
    some x42
theorem zdF (H:QJ D σ F) (x2:Int) (x3:(Cl 85 ((S1 LI)×Unit) Unit)) (x1:(S1 LI)) :∀ (k:Nat) (x42:LI) (x43:Int) (s:Nat→V),zB [(1,ji x2),(2,.fn 85 [.agg [eL x3.fs.1.a]] []),(3,.ref (.bx 3) 0 [] (.agg [eL x1.a])),(6,nI),(7,oI 7 [] (.of x42)),(8,ji x43)] s→zS F x2 x3 x1 k x42 x43=some r→Run D σ (KH r) (.run ZV [.lp ZV,.bk 0,.sq YB]) s:=by
 intro k
 induction k with
 | zero=>intro x42 x43 s _ h;exact nm h
 | succ k ih=>
   intro x42 x43 s hs h
   rw [zS] at h
   obtain ⟨h1,h2,h3,h6,h7,h8⟩:=hs
   refine .seq (.seq (rg (gm h8 fun h18=>g1 18 (jb (decide (x43≥0))) h18 fun h19=>gq (.nsq (zu h19 h (fun h=>?_) (fun h=>?_))))))
   · refine .skip (.nsq (.seq (.block (.seq (rg (gm h7 fun h22=>gm h8 fun h23=>gm h1 fun h24=>?_))))))
     obtain ⟨v79,Ev79,h⟩:=zd h
     refine gv (.ref (.at 7 []) x43.toNat [] (ji v79)) (vi (o:=.of x42) h22 h23 Ev79 rfl) fun h25=>zQ (ji x2) (zx h25 rfl) (zx h24 rfl) (xr (by first | rfl | simp [V.toks,V.tokss,toks_enc,zN])) (gz [(1,ji x2),(2,.fn 85 [.agg [eL x3.fs.1.a]] []),(3,.ref (.bx 3) 0 [] (.agg [eL x1.a])),(6,nI),(7,_),(8,ji x43)] ⟨zb h1 rfl,zb h2 (zhr (zf (zK (zf uE rfl)) rfl) rfl),zb h3 (zj rfl rfl (zK (zf uE rfl))),zb h6 rfl,zb h7 Kl,zb h8 rfl⟩ ?_)
     rintro s ⟨h1,h2,h3,h6,h7,h8⟩
     refine .nsq (.seq (rg (g1 3 (.agg [eL x1.a]) h3 fun h26=>?_)))
     obtain ⟨r80,Er80,h⟩:=zd h
     refine gcF [enc (x1:(S1 LI))] (zl h26 rfl (erase_enc (x1:(S1 LI))) zJ) (H.c61 _ _ Er80) H.g61 (gm h8 fun h28=>g2 27 28 (ji (yx .i64 r80 x43)) (rf (ji r80)) h28 fun h29=>?_)
     obtain ⟨r81,Er81,h⟩:=zd h
     refine gcF [enc (yx .i64 r80 x43:Int)] (zl h29 rfl rfl zJ) (H.c31 _ _ Er81) H.g31 (gl r81 rfl fun h31=>g0 (ji 0) fun h32=>gq (.nsq (.block (.loop ?_))))
     exact zdT H x2 x3 x1 x43 r81 (zS F x2 x3 x1 k) ih F (x42.set x43.toNat x2) 0 _ ⟨h1,h2,h3,h6,h7,h8,rfl,h31,h32⟩ h
   refine .exit (.esq (.elp (.ebk (.nsq (.seq (rg (gm h7 fun h64=>gm h64 fun h6=>xf (yR (r:=7) (x:=6) (v:=_) h6 rfl (fun s4 hz4=>?_)))))))))
   refine ez [(6,oI 6 [] (.of x42))] (hz4 6 _ _ h6 (zm (r:=7) (p:=[]) rfl rfl)) ?_
   rintro s h6
   refine .nsq (.ret ?_)
   obtain rfl:=oi h
   exact rrA (zA h6) (Yx (xk (o:=.of x42)) (vR rfl))
def yK (F:Nat) (x1:(S1 LI)) (x2:Int) (x3:(Cl 85 ((S1 LI)×Unit) Unit)):Option LI:=
 (vn F x1).bind fun r4=>
 (mkN (w64 (r4 + 1)) (0:Int)).bind fun mk5=>
 (vn F x1).bind fun r6=>
 zS F x2 x3 x1 F mk5 r6
theorem zs7 (H:QJ D σ F) (x1:(S1 LI)) (x2:Int) (x3:(Cl 85 ((S1 LI)×Unit) Unit)) (s:Nat→V) (hs:zB [(0,.agg [eL x1.a]),(1,ji x2),(2,.fn 85 [.agg [eL x3.fs.1.a]] [])] s) (h:yK F x1 x2 x3=some r):Run D σ (KH r) (.run zmP []) s:=by
 unfold yK at h
 obtain ⟨h0,h1,h2⟩:=hs
 refine .seq (zC (yc ?_))
 refine ez [(0,_),(1,_),(2,_),(3,_)] ⟨za h0 rfl (zr (zc me zk)),za h1 rfl mi,za h2 rfl (zea (zc (zr (zc me zk)) zk) zk),zg rfl⟩ ?_
 rintro s ⟨h0,h1,h2,h3⟩
 refine xU (.agg [eL x1.a]) (zx h0 rfl) h3 rfl (g0 nI fun h6=>gq (.nsq (.seq (zC (yc ?_)))))
 refine ez [(1,_),(2,_),(3,_),(6,_),(15,_)] ⟨za h1 rfl mi,za h2 rfl (zea (zc (zr (zc me zk)) zk) zk),za rfl rfl (zi rfl (zr (zc me zk))),za h6 rfl rfl,zg rfl⟩ ?_
 rintro s ⟨h1,h2,h3,h6,h15⟩
 refine g1 3 (.agg [eL x1.a]) h3 fun h12=>?_
 obtain ⟨r4,Er4,h⟩:=zd h
 refine gcF [enc (x1:(S1 LI))] (zl h12 rfl (erase_enc (x1:(S1 LI))) zJ) (H.c61 _ _ Er4) H.g61 (g1 13 (ji (w64 (r4 + 1))) (rf (ji r4)) fun h14=>?_)
 obtain ⟨mk5,Emk5,h⟩:=zd h
 refine znL (0:Int) h14 rfl h15 Emk5 (gm (rf (oI 15 [] (.of mk5))) fun h7=>xf (yR (r:=15) (x:=7) (v:=_) h7 rfl (fun s3 hz3=>?_)))
 refine ez [(1,ji x2),(2,.fn 85 [.agg [eL x3.fs.1.a]] []),(3,.ref (.bx 3) 0 [] (.agg [eL x1.a])),(6,nI),(7,oI 7 [] (.of mk5))] ⟨hz3 1 _ _ h1 mi,hz3 2 _ _ h2 (zea (zc (zr (zc me zk)) zk) zk),hz3 3 _ _ h3 (zi rfl (zr (zc me zk))),hz3 6 _ _ h6 rfl,hz3 7 _ _ h7 (zm (r:=15) (p:=[]) rfl rfl)⟩ ?_
 rintro s ⟨h1,h2,h3,h6,h7⟩
 refine .nsq (.seq (.seq (rg (g1 3 (.agg [eL x1.a]) h3 fun h16=>?_))))
 obtain ⟨r6,Er6,h⟩:=zd h
 refine gcF [enc (x1:(S1 LI))] (zl h16 rfl (erase_enc (x1:(S1 LI))) zJ) (H.c61 _ _ Er6) H.g61 (gm (rf (ji r6)) fun h8=>gq (.nsq (.block (.loop ?_))))
 exact zdF H x2 x3 x1 F mk5 r6 _ ⟨h1,h2,h3,h6,h7,h8⟩ h
end
def zkj (F:Nat):Ent:=ent 84 (fun (x:((S1 LI)×Int×(Cl 85 ((S1 LI)×Unit) Unit)×Unit))=>yK F x.1 x.2.1 x.2.2.1) (fun (r:LI)=>(eL r)) 0 false [(2,85)]
abbrev zl5 (D:List V→Option V) (F:Nat):Prop:=∀ (x0:(S1 LI)) (x1:Int) (x2:(Cl 85 ((S1 LI)×Unit) Unit)) r,yK F x0 x1 x2=some r→D [enc x0,enc x1,Arg.arg x2]=some (eL r)
theorem zs3 {F:Nat}:zl5 (zkj F).den F:=fun x0 x1 x2 _ h=>zZ (x0,x1,x2,()) h
theorem zuw (hF:zH Tp D σ) (H:QJ D σ F):(zkj F).Ok Tp:=okZ (f:=84) Try.func84 fun ⟨x0,x1,x2,_⟩ y hy=>cR hF Try.func84 c84s1 (zs7 H x0 x1 x2 _ ⟨rfl,rfl,rfl⟩ hy)
def zqM:AC:=(.seq (rr [jv 3 (.load (.ag [.p]) (.t 1)),jv 4 (.load (.ag [.p]) (.t 1)),jv 5 (.fn 85 [.t 4] []),jx 6 (.call (jf 84) [.t 3,jn (-1),.t 5]),jm 2 6]) .ret)
def A66:AC:=(.seq (.reg [.clr [1]] [jx 1 (.box (.t 0)),jv 2 (.mov (.k (.sl .nl .s 0 [])))] []) zqM)
def zwp:List An:=[⟨0,[.clr [1]],[],[],[]⟩]
theorem c66:cq Tp Try.f66 zwp=some A66:=by kernel_rfl
structure H66 (D:Den) (σ:Sig) (F:Nat):Prop where
 c84s1:zl5 (D 84) F
 g84s1:σ 84=some (0,false)
abbrev R66 (r:LI):(Nat→V)→Prop:=RR Tp [.tmp 2] 0 true (eL r)
section
variable {r:LI}
def vI (F:Nat) (x1:(S1 LI)):Option LI:=
 (yK F x1 (-1) (Cl.mk (x1,()) ():(Cl 85 ((S1 LI)×Unit) Unit))).bind fun r2=>
 some r2
theorem t66 (H:H66 D σ F) (x1:(S1 LI)) (s:Nat→V) (hs:zB [(0,.agg [eL x1.a])] s) (h:vI F x1=some r):Run D σ (R66 r) (.run A66 []) s:=by
 unfold vI at h
 have h0:=hs
 refine .seq (zC (yc ?_))
 refine ez [(0,_),(1,_)] ⟨za h0 rfl (zr (zc me zk)),zg rfl⟩ ?_
 rintro s ⟨h0,h1⟩
 refine xU (.agg [eL x1.a]) (zx h0 rfl) h1 rfl (g0 nI fun h2=>gq (.nsq (.seq (rg (g1 1 (.agg [eL x1.a]) (rf (.ref (.bx 1) 0 [] (.agg [eL x1.a]))) fun h3=>g1 1 (.agg [eL x1.a]) (rf (.ref (.bx 1) 0 [] (.agg [eL x1.a]))) fun h4=>g1 4 (.fn 85 [.agg [eL x1.a]] []) h4 fun h5=>?_)))))
 obtain ⟨r2,Er2,h⟩:=zd h
 refine gcF [enc (x1:(S1 LI)),enc ((-1):Int),Arg.arg ((Cl.mk (x1,()) ():(Cl 85 ((S1 LI)×Unit) Unit)):(Cl 85 ((S1 LI)×Unit) Unit))] (zl h3 rfl (erase_enc (x1:(S1 LI))) (zl (v:=ji (-1)) rfl rfl rfl (zl h5 rfl (UZ (vg (erase_enc (x1:(S1 LI))) xD) xD) zJ))) (H.c84s1 _ _ _ _ Er2) H.g84s1 (gm (rf (eL r2)) fun h2=>gq (.nsq (.ret ?_)))
 obtain rfl:=oi h
 exact rrA (zA h2) (ww (w5 (x:=(r2:LI))))
end
def e66 (F:Nat):Ent:=ent 66 (fun (x:((S1 LI)×Unit))=>vI F x.1) (fun (r:LI)=>(eL r)) 0 true []
abbrev C66 (D:List V→Option V) (F:Nat):Prop:=∀ (x0:(S1 LI)) r,vI F x0=some r→D [enc x0]=some (eL r)
theorem p66 {F:Nat}:C66 (e66 F).den F:=fun x0 _ h=>zZ (x0,()) h
theorem o66 (hF:zH Tp D σ) (H:H66 D σ F):(e66 F).Ok Tp:=okZ (f:=66) Try.func66 fun ⟨x0,_⟩ y hy=>cR hF Try.func66 c66 (t66 H x0 _ rfl hy)
def zsv:AC:=(.seq (rr [jv 3 (.load (.ag [.p]) (.t 1)),jx 4 (.call (jf 66) [.t 3]),jv 5 (.idx (.t 4) (jn 0) 1),jl 6 5,jm 2 6]) .ret)
def A37:AC:=(.seq (.reg [.clr [1]] [jx 1 (.box (.t 0)),jv 2 (.mov (jn 0))] []) zsv)
def zwW:List An:=[⟨0,[.clr [1]],[],[],[]⟩]
theorem c37:cq Tp Try.f37 zwW=some A37:=by kernel_rfl
structure H37 (D:Den) (σ:Sig) (F:Nat):Prop where
 c66:C66 (D 66) F
 g66:σ 66=some (0,true)
abbrev R37 (r:Int):(Nat→V)→Prop:=RR Tp [.tmp 2] 0 false (enc (r:Int))
section
variable {r:Int}
def ut (F:Nat) (x1:(S1 LI)):Option Int:=
 (vI F x1).bind fun r2=>
 (idx r2 0).bind fun v3=>
 some v3
theorem t37 (H:H37 D σ F) (x1:(S1 LI)) (s:Nat→V) (hs:zB [(0,.agg [eL x1.a])] s) (h:ut F x1=some r):Run D σ (R37 r) (.run A37 []) s:=by
 unfold ut at h
 have h0:=hs
 refine .seq (zC (yc ?_))
 refine ez [(0,_),(1,_)] ⟨za h0 rfl (zr (zc me zk)),zg rfl⟩ ?_
 rintro s ⟨h0,h1⟩
 refine xU (.agg [eL x1.a]) (zx h0 rfl) h1 rfl (g0 (ji 0) fun h2=>gq (.nsq (.seq (rg (g1 1 (.agg [eL x1.a]) (rf (.ref (.bx 1) 0 [] (.agg [eL x1.a]))) fun h3=>?_)))))
 obtain ⟨r2,Er2,h⟩:=zd h
 refine XG (m:=0) (al:=true) (r:=eL r2) [enc (x1:(S1 LI))] (zl h3 rfl (erase_enc (x1:(S1 LI))) zJ) (H.c66 _ _ Er2) H.g66 (Xt (wC (v:=.agg [eL x1.a]) h3 rfl rfl Xi)) rfl rfl rfl ?_
 obtain ⟨v3,Ev3,h⟩:=zd h
 refine gv (.ref .sh 0 [] (ji v3)) (yG (t:=.sh) (lo:=0) (xs:=r2) rfl rfl Ev3 rfl rfl) fun h5=>g1 5 (ji v3) h5 fun h6=>gm h6 fun h2=>gq (.nsq (.ret ?_))
 obtain rfl:=oi h
 exact rrA (zA h2) rfl
end
def e37 (F:Nat):Ent:=ent 37 (fun (x:((S1 LI)×Unit))=>ut F x.1) (fun (r:Int)=>(enc (r:Int))) 0 false []
abbrev C37 (D:List V→Option V) (F:Nat):Prop:=∀ (x0:(S1 LI)) r,ut F x0=some r→D [enc x0]=some (enc (r:Int))
theorem p37 {F:Nat}:C37 (e37 F).den F:=fun x0 _ h=>zZ (x0,()) h
theorem o37 (hF:zH Tp D σ) (H:H37 D σ F):(e37 F).Ok Tp:=okZ (f:=37) Try.func37 fun ⟨x0,_⟩ y hy=>cR hF Try.func37 c37 (t37 H x0 _ rfl hy)
def zuT:AC:=(.cond (.t 6) (.seq (rr [jv 2 (.mov (jn 0)),jv 3 (.mov kf)]) .ret) .skip)
def zuV:AC:=(.seq (rr [jv 7 (.load (.ag [.s,.p]) (.t 1)),jx 8 (.call (jf 29) [.t 7]),jx 9 (.call (jf 37) [.t 8]),jm 2 9,jv 3 (.mov kt)]) .ret)
def zuY:AC:=(.seq (.seq (rr [jv 4 (.load (.ag [.s,.p]) (.t 1)),jx 5 (.call (jf 22) [.t 4]),jv 6 (.un .not (.t 5))]) zuT) zuV)
def A16:AC:=(.seq (.reg [.clr [1]] [jx 1 (.box (.t 0)),jv 2 (.mov (jn 0)),jv 3 (.mov kf)] []) zuY)
def zvH:List An:=[⟨0,[.clr [1]],[],[],[]⟩]
theorem c16:cq Tp Try.f16 zvH=some A16:=by kernel_rfl
structure H16 (D:Den) (σ:Sig) (F:Nat):Prop where
 c22:C22 (D 22) F
 g22:σ 22=some (0,false)
 c29:C29 (D 29) F
 g29:σ 29=some (0,false)
 c37:C37 (D 37) F
 g37:σ 37=some (0,false)
abbrev R16 (r:(Int×Bool)):(Nat→V)→Prop:=RR Tp [.tmp 2,.tmp 3] 0 false (.tup [enc (r.1:Int),enc (r.2:Bool)])
section
variable {r:(Int×Bool)}
def vX (F:Nat) (x1:GR):Option (Int×Bool):=
 (vl F x1).bind fun r2=>
 bif (!r2) then
  some (0,false)
 else
  (ZX F x1).bind fun r3=>
  (ut F r3).bind fun r4=>
  some (r4,true)
theorem t16 (H:H16 D σ F) (x1:GR) (s:Nat→V) (hs:zB [(0,gV x1)] s) (h:vX F x1=some r):Run D σ (R16 r) (.run A16 []) s:=by
 unfold vX at h
 have h0:=hs
 refine .seq (zC (yc ?_))
 refine ez [(0,_),(1,_)] ⟨za h0 rfl mIE,zg rfl⟩ ?_
 rintro s ⟨h0,h1⟩
 refine xU (gV x1) (zx h0 rfl) h1 rfl (g0 (ji 0) fun h2=>g0 (jb false) fun h3=>gq (.nsq (.seq (.seq (rg (g1 1 (gV x1) (rf (bG 1 x1)) fun h4=>?_))))))
 obtain ⟨r2,Er2,h⟩:=zd h
 refine gcF [enc (x1:GR)] (zl h4 rfl (erase_enc (x1:GR)) zJ) (H.c22 _ _ Er2) H.g22 (g1 5 (jb (!r2)) (rf (jb r2)) fun h6=>gq (.nsq (zu h6 h (fun h=>?_) (fun h=>?_))))
 · refine .seq (rg (g0 (ji 0) fun h2=>g0 (jb false) fun h3=>gq (.nsq (.ret ?_))))
   obtain rfl:=oi h
   exact rrB (zA h2) (zA h3) rfl
 refine .skip (.nsq (.seq (rg (g1 1 (gV x1) (rf (bG 1 x1)) fun h7=>?_))))
 obtain ⟨r3,Er3,h⟩:=zd h
 refine gcF [enc (x1:GR)] (zl h7 rfl (erase_enc (x1:GR)) zJ) (H.c29 _ _ Er3) H.g29 ?_
 obtain ⟨r4,Er4,h⟩:=zd h
 refine gcF [enc (r3:(S1 LI))] (zl (v:=.agg [eL r3.a]) rfl rfl (erase_enc (r3:(S1 LI))) zJ) (H.c37 _ _ Er4) H.g37 (gm (rf (ji r4)) fun h2=>g0 (jb true) fun h3=>gq (.nsq (.ret ?_)))
 obtain rfl:=oi h
 exact rrB (zA h2) (zA h3) rfl
end
def e16 (F:Nat):Ent:=ent 16 (fun (x:(GR×Unit))=>vX F x.1) (fun (r:(Int×Bool))=>(.tup [enc (r.1:Int),enc (r.2:Bool)])) 0 false []
abbrev C16 (D:List V→Option V) (F:Nat):Prop:=∀ (x0:GR) r,vX F x0=some r→D [enc x0]=some (.tup [enc (r.1:Int),enc (r.2:Bool)])
theorem p16 {F:Nat}:C16 (e16 F).den F:=fun x0 _ h=>zZ (x0,()) h
theorem o16 (hF:zH Tp D σ) (H:H16 D σ F):(e16 F).Ok Tp:=okZ (f:=16) Try.func16 fun ⟨x0,_⟩ y hy=>cR hF Try.func16 c16 (t16 H x0 _ rfl hy)
def zrQ:AC:=(rr [jm 27 6,jm 28 8,jv 29 (.conv .u64 (.t 28)),jx 30 (.call (jf 38) [.t 29]),jv 31 (.mx [.t 27,.t 30]),jm 6 31])
def ztS:AC:=(rr [jv 32 (.bin .add (.t 23) (jn 1)),jm 23 32])
def zsj:AC:=(.seq (.block 1 (.seq (rr [jv 25 (.idx (.t 21) (.t 23) 1),jl 26 25,jm 8 26]) zrQ)) ztS)
def zpY:AC:=(.seq (.cond (.t 24) .skip (.exit 0)) zsj)
def ziP:AC:=(.seq (rr [jv 24 (.bin .lss (.t 23) (.t 22))]) zpY)
def zmt:AC:=(.seq (rr [jm 33 6,jm 4 33,jv 5 (.mov kt)]) .ret)
def zmd:AC:=(.cond (.t 17) (.seq (rr [jv 4 (.mov (jn 0)),jv 5 (.mov kf)]) .ret) .skip)
def zpg:AC:=(.block 0 (.loop ziP))
def zqB:AC:=(.seq (.seq (rr [jv 18 (.load (.ag [.s,.p]) (.t 2)),jx 19 (.call (jf 29) [.t 18]),jm 20 1,jx 21 (.call (jf 30) [.t 19,.t 20]),jk 22 21,jv 23 (.mov (jn 0))]) zpg) zmt)
def zmF:AC:=(.seq (rr [jv 6 (.mov (jn (-1)))]) zqB)
def znR:AC:=(.seq (.seq (rr [jv 9 (.load (.ag [.s,.p]) (.t 2)),jx 10 (.call (jf 22) [.t 9]),jv 11 (.un .not (.t 10)),jm 12 11,jg 13 12 false (.load (.ag [.s,.p]) (.t 2)),jg 14 12 false (.mov (.t 1)),.mk (some 15) (some (12,false)) false (.call (jf 28) [.t 13,.t 14]),jg 16 12 false (.un .not (.t 15)),jv 17 (.pick (.t 12) kt (.t 16))]) zmd) zmF)
def A17:AC:=(.seq (.reg [.clr [2]] [jx 2 (.box (.t 0)),jv 4 (.mov (jn 0)),jv 5 (.mov kf)] []) znR)
def zv2:List An:=[⟨0,[.clr [2]],[],[],[]⟩]
theorem c17:cq Tp Try.f17 zv2=some A17:=by kernel_rfl
structure H17 (D:Den) (σ:Sig) (F:Nat):Prop where
 c22:C22 (D 22) F
 g22:σ 22=some (0,false)
 c28:C28 (D 28) F
 g28:σ 28=some (0,false)
 c29:C29 (D 29) F
 g29:σ 29=some (0,false)
 c30:C30 (D 30) F
 g30:σ 30=some (0,false)
 c38:C38 (D 38) F
 g38:σ 38=some (0,false)
abbrev R17 (r:(Int×Bool)):(Nat→V)→Prop:=RR Tp [.tmp 4,.tmp 5] 0 false (.tup [enc (r.1:Int),enc (r.2:Bool)])
section
variable {r:(Int×Bool)}
def we (F:Nat) (r7:LI) :Nat→Int→Int→Option (Int×Bool)
 | 0,_,_=>none
 | k + 1,x10,x11=>
   bif decide (x11 < (r7.length:Int)) then
    (idx r7 x11).bind fun v14=>
    (vw F (Kd.mk (IntKind.u64.wrap v14):Kd .u64)).bind fun r15=>
    (we F r7 k) (if r15 > x10 then r15 else x10) (w64 (x11 + 1))
   else
    some (x10,true)
theorem zie (H:H17 D σ F) (r7:LI) :∀ (k:Nat) (x10:Int) (x11:Int) (s:Nat→V),zB [(4,ji 0),(5,jb false),(6,ji x10),(21,eL r7),(22,ji (r7.length:Int)),(23,ji x11)] s→we F r7 k x10 x11=some r→Run D σ (R17 r) (.run ziP [.lp ziP,.bk 0,.sq zmt]) s:=by
 intro k
 induction k with
 | zero=>intro x10 x11 s _ h;exact nm h
 | succ k ih=>
   intro x10 x11 s hs h
   rw [we] at h
   obtain ⟨h4,h5,h6,h21,h22,h23⟩:=hs
   refine .seq (rg (g2 23 22 (jb (decide (x11 < (r7.length:Int)))) h23 h22 fun h24=>gq (.nsq (.seq (zu h24 h (fun h=>?_) (fun h=>?_))))))
   · refine .skip (.nsq (.seq (.block (.seq (rg ?_)))))
     obtain ⟨v14,Ev14,h⟩:=zd h
     refine gv (.ref .sh 0 [] (ji v14)) (yG (t:=.sh) (lo:=0) (xs:=r7) h21 h23 Ev14 rfl rfl) fun h25=>g1 25 (ji v14) h25 fun h26=>gm h26 fun h8=>gq (.nsq (rg (gm h6 fun h27=>gm h8 fun h28=>g1 28 (.int .u64 (IntKind.u64.wrap v14)) h28 fun h29=>?_)))
     obtain ⟨r15,Er15,h⟩:=zd h
     refine gcF [enc ((Kd.mk (IntKind.u64.wrap v14):Kd .u64):(Kd .u64))] (zl h29 rfl rfl zJ) (H.c38 _ _ Er15) H.g38 (g2 27 30 (ji (if r15 > x10 then r15 else x10)) h27 (rf (ji r15)) fun h31=>gm h31 fun h6=>gq (.nbk (.nsq (rg (g1 23 (ji (w64 (x11 + 1))) h23 fun h32=>gm h32 fun h23=>gq (.nlp ?_))))))
     exact ih (if r15 > x10 then r15 else x10) (w64 (x11 + 1)) _ ⟨h4,h5,h6,h21,h22,h23⟩ h
   refine .exit (.esq (.elp (.ebk (.nsq (.seq (rg (gm h6 fun h33=>gm h33 fun h4=>g0 (jb true) fun h5=>gq (.nsq (.ret ?_)))))))))
   obtain rfl:=oi h
   exact rrB (zA h4) (zA h5) rfl
def vj (F:Nat) (x2:LI) (x1:GR)  (x5:Bool):Option (Int×Bool):=
 bif x5 then
  some (0,false)
 else
  (ZX F x1).bind fun r6=>
  (xu F r6 x2).bind fun r7=>
  we F r7 F (-1) 0
theorem zcc (H:H17 D σ F) (x2:LI) (x1:GR)  (x5:Bool) (s:Nat→V) (hs:zB [(1,eL x2),(2,bG 2 x1),(4,ji 0),(5,jb false),(17,jb x5)] s) (h:vj F x2 x1  x5=some r):Run D σ (R17 r) (.nrm [.sq zmd,.sq zmF]) s:=by
 unfold vj at h
 obtain ⟨h1,h2,h4,h5,h17⟩:=hs
 refine .nsq (zu h17 h (fun h=>?_) (fun h=>?_))
 · refine .seq (rg (g0 (ji 0) fun h4=>g0 (jb false) fun h5=>gq (.nsq (.ret ?_))))
   obtain rfl:=oi h
   exact rrB (zA h4) (zA h5) rfl
 refine .skip (.nsq (.seq (rg (g0 (ji (-1)) fun h6=>gq (.nsq (.seq (.seq (rg (g1 2 (gV x1) h2 fun h18=>?_)))))))))
 obtain ⟨r6,Er6,h⟩:=zd h
 refine gcF [enc (x1:GR)] (zl h18 rfl (erase_enc (x1:GR)) zJ) (H.c29 _ _ Er6) H.g29 (gm h1 fun h20=>?_)
 obtain ⟨r7,Er7,h⟩:=zd h
 refine gcF [enc (r6:(S1 LI)),eL x2] (zl (v:=.agg [eL r6.a]) rfl rfl (erase_enc (r6:(S1 LI))) (zl h20 rfl (erase_enc (x2:LI)) zJ)) (H.c30 _ _ _ Er7) H.g30 (gl r7 rfl fun h22=>g0 (ji 0) fun h23=>gq (.nsq (.block (.loop ?_))))
 exact zie H r7 F (-1) 0 _ ⟨h4,h5,h6,rfl,h22,h23⟩ h
def wl (F:Nat) (x1:GR) (x2:LI):Option (Int×Bool):=
 (vl F x1).bind fun r16=>
 bif (!r16) then
  vj F x2 x1 true
 else
  (Yh F x1 x2).bind fun r17=>
  vj F x2 x1 (!r17)
theorem t17 (H:H17 D σ F) (x1:GR) (x2:LI) (s:Nat→V) (hs:zB [(0,gV x1),(1,eL x2)] s) (h:wl F x1 x2=some r):Run D σ (R17 r) (.run A17 []) s:=by
 unfold wl at h
 obtain ⟨h0,h1⟩:=hs
 refine .seq (zC (yc ?_))
 refine ez [(0,_),(1,_),(2,_)] ⟨za h0 rfl mIE,za h1 rfl me,zg rfl⟩ ?_
 rintro s ⟨h0,h1,h2⟩
 refine xU (gV x1) (zx h0 rfl) h2 rfl (g0 (ji 0) fun h4=>g0 (jb false) fun h5=>gq (.nsq (.seq (.seq (rg (g1 2 (gV x1) (rf (bG 2 x1)) fun h9=>?_))))))
 obtain ⟨r16,Er16,h⟩:=zd h
 refine gcF [enc (x1:GR)] (zl h9 rfl (erase_enc (x1:GR)) zJ) (H.c22 _ _ Er16) H.g22 (g1 10 (jb (!r16)) (rf (jb r16)) fun h11=>gm h11 fun h12=>yd h (fun hg4 h=>?_) (fun hg4 h=>?_))
 · iterate 4 refine yq (ct h12 hg4) ?_
   refine g2 12 16 (jb true) (ct h12 hg4) (rf (.tup [])) fun h17=>gq ?_
   exact zcc H x2 x1 true _ ⟨h1,rfl,h4,h5,h17⟩ h
 refine zt (ct h12 hg4) (g1 2 (gV x1) (rf (bG 2 x1)) fun h13=>zt (ct h12 hg4) (gm h1 fun h14=>?_))
 obtain ⟨r17,Er17,h⟩:=zd h
 refine zt (ct h12 hg4) (gcF [enc (x1:GR),eL x2] (zl h13 rfl (erase_enc (x1:GR)) (zl h14 rfl (erase_enc (x2:LI)) zJ)) (H.c28 _ _ _ Er17) H.g28 (zt (ct h12 hg4) (g1 15 (jb (!r17)) (rf (jb r17)) fun h16=>g2 12 16 (jb (!r17)) (ct h12 hg4) h16 fun h17=>gq ?_)))
 exact zcc H x2 x1 (!r17) _ ⟨h1,rfl,h4,h5,h17⟩ h
end
def e17 (F:Nat):Ent:=ent 17 (fun (x:(GR×LI×Unit))=>wl F x.1 x.2.1) (fun (r:(Int×Bool))=>(.tup [enc (r.1:Int),enc (r.2:Bool)])) 0 false []
abbrev C17 (D:List V→Option V) (F:Nat):Prop:=∀ (x0:GR) (x1:LI) r,wl F x0 x1=some r→D [enc x0,enc x1]=some (.tup [enc (r.1:Int),enc (r.2:Bool)])
theorem p17 {F:Nat}:C17 (e17 F).den F:=fun x0 x1 _ h=>zZ (x0,x1,()) h
theorem o17 (hF:zH Tp D σ) (H:H17 D σ F):(e17 F).Ok Tp:=okZ (f:=17) Try.func17 fun ⟨x0,x1,_⟩ y hy=>cR hF Try.func17 c17 (t17 H x0 x1 _ ⟨rfl,rfl⟩ hy)
end Go.Zq
