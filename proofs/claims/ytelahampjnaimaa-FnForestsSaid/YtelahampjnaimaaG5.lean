/- Functions of the program as typed functions, and that the machine runs as they say (part 5). No further condition. -/
import Derived.Test.YtelahampjnaimaaK4
import Derived.Test.YtelahampjnaimaaProg
import Derived.Test.YtelahampjnaimaaChecked
import Derived.KernelRfl
import Derived.Test.YtelahampjnaimaaG4
set_option linter.unusedVariables false
set_option linter.unusedSimpArgs false
namespace Go.Zq
open Go.Proofs
variable {D:Den} {σ:Sig} {F:Nat}
def zqJ:AC:=(.seq (rr [jv 7 (.load (.ag [.p]) (.t 3)),jm 8 1,jm 9 2,jv 10 (.bin .shl (jn 1) (.t 9)),jv 11 (.bin .or (.t 8) (.t 10)),jx 12 (.call (jf 82) [.t 7,.t 11]),jv 13 (.conv .u64 (.t 12)),jx 14 (.call (jf 30) [.t 13]),jm 6 14]) .ret)
def A68:AC:=(.seq (.reg [.clr [3]] [jx 3 (.box (.t 0)),jv 6 (.mov (jn 0))] []) zqJ)
def zwl:List An:=[⟨0,[.clr [3]],[],[],[]⟩]
theorem c68:cq Try.prog Try.f68 zwl=some A68:=by kernel_rfl
structure H68 (D:Den) (σ:Sig) (F:Nat):Prop where
 c82:C82 (D 82) F
 g82:σ 82=some (0,false)
 c30:C30 (D 30) F
 g30:σ 30=some (0,false)
abbrev R68 (r:Int):(Nat→V)→Prop:=RR Try.prog [.tmp 6] 0 false (Enc.enc (r:Int))
section
variable {r:Int}
def wx (F:Nat) (x1:(S1 LI)) (x2:Int) (x3:Int):Option Int:=
 (Xr .i64 1 x3).bind fun q4=>
 (Z5 F x1 (ior .i64 x2 q4)).bind fun r5=>
 (wo F (Kd.mk (IntKind.u64.wrap r5):Kd .u64)).bind fun r6=>
 some r6
theorem t68 (H:H68 D σ F) (x1:(S1 LI)) (x2:Int) (x3:Int) (s:Nat→V) (hs:zr [(0,.agg [eL x1.a]),(1,ji x2),(2,ji x3)] s) (h:wx F x1 x2 x3=some r):Run D σ (R68 r) (.run A68 []) s:=by
 unfold wx at h
 obtain ⟨h0,h1,h2⟩:=hs
 refine .seq (zw (z3 ?_))
 refine ez [(0,_),(1,_),(2,_),(3,_)] ⟨za h0 rfl (zW (zh me zB)),za h1 rfl mi,za h2 rfl mi,ze rfl⟩ ?_
 rintro s ⟨h0,h1,h2,h3⟩
 refine xo (.agg [eL x1.a]) (zF h0 rfl) h3 rfl (g0 (ji 0) fun h6=>gq (.nsq (.seq (rg (g1 3 (.agg [eL x1.a]) (rf (.ref (.bx 3) 0 [] (.agg [eL x1.a]))) fun h7=>gm h1 fun h8=>gm h2 fun h9=>?_)))))
 obtain ⟨q4,Eq4,h⟩:=zb h
 refine gv (ji q4) (uo rfl h9 Eq4) fun h10=>g2 8 10 (ji (ior .i64 x2 q4)) h8 h10 fun h11=>?_
 obtain ⟨r5,Er5,h⟩:=zb h
 refine gcF [Enc.enc (x1:(S1 LI)),Enc.enc (ior .i64 x2 q4:Int)] (zf h7 rfl (Enc.erase_enc (x1:(S1 LI))) (zf h11 rfl rfl zA)) (H.c82 _ _ _ Er5) H.g82 (g1 12 (.int .u64 (IntKind.u64.wrap r5)) (rf (ji r5)) fun h13=>?_)
 obtain ⟨r6,Er6,h⟩:=zb h
 refine gcF [Enc.enc ((Kd.mk (IntKind.u64.wrap r5):Kd .u64):(Kd .u64))] (zf h13 rfl rfl zA) (H.c30 _ _ Er6) H.g30 (gm (rf (ji r6)) fun h6=>gq (.nsq (.ret ?_)))
 obtain rfl:=oi h
 exact rrA (zo h6) rfl
end
def e68 (F:Nat):Ent:=ent 68 (fun (x:((S1 LI)×Int×Int×Unit))=>wx F x.1 x.2.1 x.2.2.1) (fun (r:Int)=>(Enc.enc (r:Int))) 0 false []
abbrev C68 (D:List V→Option V) (F:Nat):Prop:=∀ (x0:(S1 LI)) (x1:Int) (x2:Int) r,wx F x0 x1 x2=some r→D [Enc.enc x0,Enc.enc x1,Enc.enc x2]=some (Enc.enc (r:Int))
theorem p68 {F:Nat}:C68 (e68 F).den F:=fun x0 x1 x2 _ h=>zU (x0,x1,x2,()) h
theorem o68 (hF:zG Try.prog D σ) (H:H68 D σ F):(e68 F).Ok Try.prog:=okZ (f:=68) Try.func68 fun ⟨x0,x1,x2,_⟩ y hy=>cR hF Try.func68 c68 (t68 H x0 x1 x2 _ ⟨rfl,rfl,rfl⟩ hy)
def zlI:AC:=(.cond (.t 19) .skip (.exit 0))
def zcY:AC:=(.cond (.t 58) (rr [jm 59 7,jm 60 8,jm 61 11,jv 62 (.idx (.t 59) (.t 60) 1),jz (.store .s (.t 62) (.t 61))]) .skip)
def zkt:AC:=(.seq (rr [jm 49 9,jv 50 (.bin .eql (.t 49) (jn 0)),jm 51 50,jg 52 51 false (.mov (.t 11)),jg 53 51 false (.mov (.t 7)),jg 54 51 false (.mov (.t 8)),jg 55 51 false (.idx (.t 53) (.t 54) 1),jg 56 51 false (.load .s (.t 55)),jg 57 51 false (.bin .lss (.t 52) (.t 56)),jv 58 (.pick (.t 51) kt (.t 57))]) zcY)
def zlK:AC:=(.seq (rr [jm 37 2,jm 38 8,jm 39 10,jx 40 (.call (.t 37) [.t 38,.t 39]),jm 41 7,jm 42 8,jm 43 10,jv 44 (.bin .shl (jn 1) (.t 43)),jv 45 (.bin .or (.t 42) (.t 44)),jv 46 (.idx (.t 41) (.t 45) 1),jl 47 46,jv 48 (.mx [.t 40,.t 47]),jm 11 48]) zkt)
def Nb:AC:=(rr [jv 63 (.bin .add (.t 32) (jn 1)),jm 32 63])
def zln:AC:=(.seq (.block 3 (.seq (rr [jm 34 32,jv 35 (.idx (.t 30) (.t 32) 1),jl 36 35,jm 9 34,jm 10 36]) zlK)) Nb)
def zmq:AC:=(.seq (.cond (.t 33) .skip (.exit 2)) zln)
def Wn:AC:=(.seq (rr [jv 33 (.bin .lss (.t 32) (.t 31))]) zmq)
def zl9:AC:=(.block 2 (.loop Wn))
def zlE:AC:=(.seq (rr [jv 26 (.load (.ag [.p]) (.t 3)),jx 27 (.call (jf 35) [.t 26]),jm 28 8,jv 29 (.bin .andNot (.t 27) (.t 28)),jx 30 (.call (jf 77) [.t 29]),jk 31 30,jv 32 (.mov (jn 0))]) zl9)
def Uv:AC:=(rr [jm 20 8,jv 21 (.bin .sub (.t 20) (jn 1)),jm 8 21])
def zlq:AC:=(.seq (.block 1 (.seq (rr [jm 22 7,jm 23 8,jm 24 1,jv 25 (.idx (.t 22) (.t 23) 1),jz (.store .s (.t 25) (.t 24))]) zlE)) Uv)
def ZK:AC:=(.seq (.seq (rr [jm 18 8,jv 19 (.bin .geq (.t 18) (jn 0))]) zlI) zlq)
def Yy:AC:=(.seq (.reg [] [jm 64 7,jm 6 64] [.home 7 6]) .ret)
def zkv:AC:=(.block 0 (.loop ZK))
def zk0:AC:=(.seq (.seq (rr [jv 16 (.load (.ag [.p]) (.t 3)),jx 17 (.call (jf 35) [.t 16]),jm 8 17]) zkv) Yy)
def zjn:AC:=(.seq (.reg [.clr [15]] [jv 12 (.load (.ag [.p]) (.t 3)),jx 13 (.call (jf 35) [.t 12]),jv 14 (.bin .add (.t 13) (jn 1)),jx 15 (.mk (.t 14) i0 i0),jm 7 15] [.home 15 7]) zk0)
def znb:AC:=(.seq (.reg [.clr [3]] [jx 3 (.box (.t 0)),jv 6 (.mov (.k (.sl .nl .s 0 [])))] []) zjn)
def znl:List An:=[⟨0,[.clr [3]],[],[],[]⟩,⟨1,[.clr [15]],[],[],[.home 15 7]⟩,⟨13,[],[],[],[.home 7 6]⟩]
theorem c67s2:cq Try.prog Try.f67 znl=some znb:=by kernel_rfl
structure Q3 (D:Den) (σ:Sig) (F:Nat):Prop where
 c35:C35 (D 35) F
 g35:σ 35=some (0,false)
 c77:C77 (D 77) F
 g77:σ 77=some (0,false)
 c68:C68 (D 68) F
 g68:σ 68=some (0,false)
abbrev Kx (r:LI):(Nat→V)→Prop:=RR Try.prog [.tmp 6] 0 false (eL r)
section
variable {r:LI}
def yR (F:Nat) (x2:Int) (x3:(Cl 68 ((S1 LI)×Unit) Unit)) (x1:(S1 LI)) (x43:Int) (r81:LI) (x93:Int) (c1:LI→Int→Option LI) (c4:LI→Int→Option LI) (x111:LI):Option LI:=
 c4 x111 (w64 (x93 + 1))
theorem M7 (H:Q3 D σ F) (x2:Int) (x3:(Cl 68 ((S1 LI)×Unit) Unit)) (x1:(S1 LI)) (x43:Int) (r81:LI) (x93:Int) (c1:LI→Int→Option LI) (Hc1:∀ (x42:LI) (x43:Int) (s:Nat→V),zr [(1,ji x2),(2,.fn 68 [.agg [eL x3.fs.1.a]] []),(3,.ref (.bx 3) 0 [] (.agg [eL x1.a])),(6,nI),(7,oI 7 [] (.of x42)),(8,ji x43)] s→c1 x42 x43=some r→Run D σ (Kx r) (.run ZK [.lp ZK,.bk 0,.sq Yy]) s) (c4:LI→Int→Option LI) (Hc4:∀ (x92:LI) (x93:Int) (s:Nat→V),zr [(1,ji x2),(2,.fn 68 [.agg [eL x3.fs.1.a]] []),(3,.ref (.bx 3) 0 [] (.agg [eL x1.a])),(6,nI),(7,oI 7 [] (.of x92)),(8,ji x43),(30,eL r81),(31,ji (r81.length:Int)),(32,ji x93)] s→c4 x92 x93=some r→Run D σ (Kx r) (.run Wn [.lp Wn,.bk 2,.bk 1,.sq Uv,.lp ZK,.bk 0,.sq Yy]) s) (x111:LI) (s:Nat→V) (hs:zr [(1,ji x2),(2,.fn 68 [.agg [eL x3.fs.1.a]] []),(3,.ref (.bx 3) 0 [] (.agg [eL x1.a])),(6,nI),(7,oI 7 [] (.of x111)),(8,ji x43),(30,eL r81),(31,ji (r81.length:Int)),(32,ji x93)] s) (h:yR F x2 x3 x1 x43 r81 x93 c1 c4 x111=some r):Run D σ (Kx r) (.nrm [.bk 3,.sq Nb,.lp Wn,.bk 2,.bk 1,.sq Uv,.lp ZK,.bk 0,.sq Yy]) s:=by
 unfold yR at h
 obtain ⟨h1,h2,h3,h6,h7,h8,h30,h31,h32⟩:=hs
 refine .nbk (.nsq (rg (g1 32 (ji (w64 (x93 + 1))) h32 fun h63=>gm h63 fun h32=>gq (.nlp ?_))))
 exact Hc4 x111 (w64 (x93 + 1)) _ ⟨h1,h2,h3,h6,h7,h8,h30,h31,h32⟩ h
def yQ (F:Nat) (x2:Int) (x3:(Cl 68 ((S1 LI)×Unit) Unit)) (x1:(S1 LI)) (x92:LI) (x43:Int) (v107:Int) (r105:Int) (r81:LI) (x93:Int) (c1:LI→Int→Option LI) (c4:LI→Int→Option LI) (x109:Bool):Option LI:=
 bif x109 then
  (idx x92 x43).bind fun v112=>
  yR F x2 x3 x1 x43 r81 x93 c1 c4 (x92.set x43.toNat (if v107 > r105 then v107 else r105))
 else
  yR F x2 x3 x1 x43 r81 x93 c1 c4 x92
theorem Nz (H:Q3 D σ F) (x2:Int) (x3:(Cl 68 ((S1 LI)×Unit) Unit)) (x1:(S1 LI)) (x92:LI) (x43:Int) (v107:Int) (r105:Int) (r81:LI) (x93:Int) (c1:LI→Int→Option LI) (Hc1:∀ (x42:LI) (x43:Int) (s:Nat→V),zr [(1,ji x2),(2,.fn 68 [.agg [eL x3.fs.1.a]] []),(3,.ref (.bx 3) 0 [] (.agg [eL x1.a])),(6,nI),(7,oI 7 [] (.of x42)),(8,ji x43)] s→c1 x42 x43=some r→Run D σ (Kx r) (.run ZK [.lp ZK,.bk 0,.sq Yy]) s) (c4:LI→Int→Option LI) (Hc4:∀ (x92:LI) (x93:Int) (s:Nat→V),zr [(1,ji x2),(2,.fn 68 [.agg [eL x3.fs.1.a]] []),(3,.ref (.bx 3) 0 [] (.agg [eL x1.a])),(6,nI),(7,oI 7 [] (.of x92)),(8,ji x43),(30,eL r81),(31,ji (r81.length:Int)),(32,ji x93)] s→c4 x92 x93=some r→Run D σ (Kx r) (.run Wn [.lp Wn,.bk 2,.bk 1,.sq Uv,.lp ZK,.bk 0,.sq Yy]) s) (x109:Bool) (s:Nat→V) (hs:zr [(1,ji x2),(2,.fn 68 [.agg [eL x3.fs.1.a]] []),(3,.ref (.bx 3) 0 [] (.agg [eL x1.a])),(6,nI),(7,oI 7 [] (.of x92)),(8,ji x43),(11,ji (if v107 > r105 then v107 else r105)),(30,eL r81),(31,ji (r81.length:Int)),(32,ji x93),(58,jb x109)] s) (h:yQ F x2 x3 x1 x92 x43 v107 r105 r81 x93 c1 c4 x109=some r):Run D σ (Kx r) (.nrm [.sq zcY,.bk 3,.sq Nb,.lp Wn,.bk 2,.bk 1,.sq Uv,.lp ZK,.bk 0,.sq Yy]) s:=by
 unfold yQ at h
 obtain ⟨h1,h2,h3,h6,h7,h8,h11,h30,h31,h32,h58⟩:=hs
 refine .nsq (zn h58 h (fun h=>?_) (fun h=>?_))
 · refine rg (gm h7 fun h59=>gm h8 fun h60=>gm h11 fun h61=>?_)
   obtain ⟨v112,Ev112,h⟩:=zb h
   refine gv (.ref (.at 7 []) x43.toNat [] (ji v112)) (xq (o:=.of x92) h59 h60 Ev112 rfl) fun h62=>ye (ji (if v107 > r105 then v107 else r105)) (zF h62 rfl) (zF h61 rfl) (xN (by first | rfl | simp [V.toks,V.tokss,Enc.toks_enc,yd])) ?_
   refine gz [(1,ji x2),(2,.fn 68 [.agg [eL x3.fs.1.a]] []),(3,.ref (.bx 3) 0 [] (.agg [eL x1.a])),(6,nI),(7,_),(8,ji x43),(30,eL r81),(31,ji (r81.length:Int)),(32,ji x93)] ⟨zd h1 rfl,zd h2 (za4 (zy (yL (zy uE rfl)) rfl) rfl),zd h3 (zH rfl rfl (yL (zy uE rfl))),zd h6 rfl,zd h7 Xu,zd h8 rfl,zd h30 uE,zd h31 rfl,zd h32 rfl⟩ ?_
   rintro s ⟨h1,h2,h3,h6,h7,h8,h30,h31,h32⟩
   exact M7 H x2 x3 x1 x43 r81 x93 c1 Hc1 c4 Hc4 (x92.set x43.toNat (if v107 > r105 then v107 else r105)) _ ⟨h1,h2,h3,h6,h7,h8,h30,h31,h32⟩ h
 refine .skip ?_
 exact M7 H x2 x3 x1 x43 r81 x93 c1 Hc1 c4 Hc4 x92 _ ⟨h1,h2,h3,h6,h7,h8,h30,h31,h32⟩ h
def zS (F:Nat) (x2:Int) (x3:(Cl 68 ((S1 LI)×Unit) Unit)) (x1:(S1 LI)) (x43:Int) (r81:LI) (c1:LI→Int→Option LI):Nat→LI→Int→Option LI
 | 0,_,_=>none
 | k + 1,x92,x93=>
   bif decide (x93 < (r81.length:Int)) then
    (idx r81 x93).bind fun v104=>
    (wx F x3.fs.1 x43 v104).bind fun r105=>
    (Xr .i64 1 v104).bind fun q106=>
    (idx x92 (ior .i64 x43 q106)).bind fun v107=>
    bif (x93 == 0) then
     yQ F x2 x3 x1 x92 x43 v107 r105 r81 x93 c1 (zS F x2 x3 x1 x43 r81 c1 k) true
    else
     (idx x92 x43).bind fun v113=>
     yQ F x2 x3 x1 x92 x43 v107 r105 r81 x93 c1 (zS F x2 x3 x1 x43 r81 c1 k) (decide ((if v107 > r105 then v107 else r105) < v113))
   else
    c1 x92 (w64 (x43 - 1))
theorem zeN (H:Q3 D σ F) (x2:Int) (x3:(Cl 68 ((S1 LI)×Unit) Unit)) (x1:(S1 LI)) (x43:Int) (r81:LI) (c1:LI→Int→Option LI) (Hc1:∀ (x42:LI) (x43:Int) (s:Nat→V),zr [(1,ji x2),(2,.fn 68 [.agg [eL x3.fs.1.a]] []),(3,.ref (.bx 3) 0 [] (.agg [eL x1.a])),(6,nI),(7,oI 7 [] (.of x42)),(8,ji x43)] s→c1 x42 x43=some r→Run D σ (Kx r) (.run ZK [.lp ZK,.bk 0,.sq Yy]) s):∀ (k:Nat) (x92:LI) (x93:Int) (s:Nat→V),zr [(1,ji x2),(2,.fn 68 [.agg [eL x3.fs.1.a]] []),(3,.ref (.bx 3) 0 [] (.agg [eL x1.a])),(6,nI),(7,oI 7 [] (.of x92)),(8,ji x43),(30,eL r81),(31,ji (r81.length:Int)),(32,ji x93)] s→zS F x2 x3 x1 x43 r81 c1 k x92 x93=some r→Run D σ (Kx r) (.run Wn [.lp Wn,.bk 2,.bk 1,.sq Uv,.lp ZK,.bk 0,.sq Yy]) s:=by
 intro k
 induction k with
 | zero=>intro x92 x93 s _ h;exact nm h
 | succ k ih=>
   intro x92 x93 s hs h
   rw [zS] at h
   obtain ⟨h1,h2,h3,h6,h7,h8,h30,h31,h32⟩:=hs
   refine .seq (rg (g2 32 31 (jb (decide (x93 < (r81.length:Int)))) h32 h31 fun h33=>gq (.nsq (.seq (zn h33 h (fun h=>?_) (fun h=>?_))))))
   · refine .skip (.nsq (.seq (.block (.seq (rg (gm h32 fun h34=>?_))))))
     obtain ⟨v104,Ev104,h⟩:=zb h
     refine gv (.ref .sh 0 [] (ji v104)) (yn (t:=.sh) (lo:=0) (xs:=r81) h30 h32 Ev104 rfl rfl) fun h35=>g1 35 (ji v104) h35 fun h36=>gm h34 fun h9=>gm h36 fun h10=>gq (.nsq (.seq (rg (gm h2 fun h37=>gm h8 fun h38=>gm h10 fun h39=>?_))))
     obtain ⟨r105,Er105,h⟩:=zb h
     refine zhe (m:=0) (al:=false) (r:=Enc.enc (r105:Int)) (fs:=[.agg [eL x3.fs.1.a]]) (env:=[]) (us:=[Enc.enc (x3.fs.1:(S1 LI))]) (ws:=[]) h37 (YP (Enc.erase_enc (x3.fs.1:(S1 LI))) Zf) Zf rfl [Enc.enc (x43:Int),Enc.enc (v104:Int)] (zf h38 rfl rfl (zf h39 rfl rfl zA)) (H.c68 _ _ _ _ Er105) H.g68 rfl rfl rfl rfl (gm h7 fun h41=>gm h8 fun h42=>gm h10 fun h43=>?_)
     obtain ⟨q106,Eq106,h⟩:=zb h
     refine gv (ji q106) (uo rfl h43 Eq106) fun h44=>g2 42 44 (ji (ior .i64 x43 q106)) h42 h44 fun h45=>?_
     obtain ⟨v107,Ev107,h⟩:=zb h
     refine gv (.ref (.at 7 []) ((ior .i64 x43 q106).toNat) [] (ji v107)) (xq (o:=.of x92) h41 h45 Ev107 rfl) fun h46=>g1 46 (ji v107) h46 fun h47=>g2 40 47 (ji (if v107 > r105 then v107 else r105)) (rf (ji r105)) h47 fun h48=>gm h48 fun h11=>gq (.nsq (.seq (rg (gm h9 fun h49=>g1 49 (jb (x93 == 0)) h49 fun h50=>gm h50 fun h51=>z4 h (fun hg3 h=>?_) (fun hg3 h=>?_)))))
     · iterate 6 refine zR (ct h51 hg3) ?_
       refine g2 51 57 (jb true) (ct h51 hg3) (rf (.tup [])) fun h58=>gz [(1,_),(2,_),(3,_),(6,_),(7,_),(8,_),(11,_),(30,_),(31,_),(32,_),(58,_)] ⟨h1,h2,h3,h6,h7,h8,h11,h30,h31,h32,h58⟩ ?_
       rintro s ⟨h1,h2,h3,h6,h7,h8,h11,h30,h31,h32,h58⟩
       exact Nz H x2 x3 x1 x92 x43 v107 r105 r81 x93 c1 Hc1 (zS F x2 x3 x1 x43 r81 c1 k) ih true _ ⟨h1,h2,h3,h6,h7,h8,h11,h30,h31,h32,h58⟩ h
     refine zm (ct h51 hg3) (gm h11 fun h52=>zm (ct h51 hg3) (gm h7 fun h53=>zm (ct h51 hg3) (gm h8 fun h54=>?_)))
     obtain ⟨v113,Ev113,h⟩:=zb h
     refine zm (ct h51 hg3) (gv (.ref (.at 7 []) x43.toNat [] (ji v113)) (xq (o:=.of x92) h53 h54 Ev113 rfl) fun h55=>zm (ct h51 hg3) (g1 55 (ji v113) h55 fun h56=>zm (ct h51 hg3) (g2 52 56 (jb (decide ((if v107 > r105 then v107 else r105) < v113))) h52 h56 fun h57=>g2 51 57 (jb (decide ((if v107 > r105 then v107 else r105) < v113))) (ct h51 hg3) h57 fun h58=>gz [(1,_),(2,_),(3,_),(6,_),(7,_),(8,_),(11,_),(30,_),(31,_),(32,_),(58,_)] ⟨h1,h2,h3,h6,h7,h8,h11,h30,h31,h32,h58⟩ ?_)))
     rintro s ⟨h1,h2,h3,h6,h7,h8,h11,h30,h31,h32,h58⟩
     exact Nz H x2 x3 x1 x92 x43 v107 r105 r81 x93 c1 Hc1 (zS F x2 x3 x1 x43 r81 c1 k) ih (decide ((if v107 > r105 then v107 else r105) < v113)) _ ⟨h1,h2,h3,h6,h7,h8,h11,h30,h31,h32,h58⟩ h
   refine .exit (.esq (.elp (.ebk (.nbk (.nsq (rg (gm h8 fun h20=>g1 20 (ji (w64 (x43 - 1))) h20 fun h21=>gm h21 fun h8=>gq (.nlp ?_))))))))
   exact Hc1 x92 (w64 (x43 - 1)) _ ⟨h1,h2,h3,h6,h7,h8⟩ h
def zO (F:Nat) (x2:Int) (x3:(Cl 68 ((S1 LI)×Unit) Unit)) (x1:(S1 LI)) :Nat→LI→Int→Option LI
 | 0,_,_=>none
 | k + 1,x42,x43=>
   bif decide (x43≥0) then
    (idx x42 x43).bind fun v79=>
    (xa F x1).bind fun r80=>
    (XN F (yW .i64 r80 x43)).bind fun r81=>
    zS F x2 x3 x1 x43 r81 (zO F x2 x3 x1 k) F (x42.set x43.toNat x2) 0
   else
    some x42
theorem zeA (H:Q3 D σ F) (x2:Int) (x3:(Cl 68 ((S1 LI)×Unit) Unit)) (x1:(S1 LI)) :∀ (k:Nat) (x42:LI) (x43:Int) (s:Nat→V),zr [(1,ji x2),(2,.fn 68 [.agg [eL x3.fs.1.a]] []),(3,.ref (.bx 3) 0 [] (.agg [eL x1.a])),(6,nI),(7,oI 7 [] (.of x42)),(8,ji x43)] s→zO F x2 x3 x1 k x42 x43=some r→Run D σ (Kx r) (.run ZK [.lp ZK,.bk 0,.sq Yy]) s:=by
 intro k
 induction k with
 | zero=>intro x42 x43 s _ h;exact nm h
 | succ k ih=>
   intro x42 x43 s hs h
   rw [zO] at h
   obtain ⟨h1,h2,h3,h6,h7,h8⟩:=hs
   refine .seq (.seq (rg (gm h8 fun h18=>g1 18 (jb (decide (x43≥0))) h18 fun h19=>gq (.nsq (zn h19 h (fun h=>?_) (fun h=>?_))))))
   · refine .skip (.nsq (.seq (.block (.seq (rg (gm h7 fun h22=>gm h8 fun h23=>gm h1 fun h24=>?_))))))
     obtain ⟨v79,Ev79,h⟩:=zb h
     refine gv (.ref (.at 7 []) x43.toNat [] (ji v79)) (xq (o:=.of x42) h22 h23 Ev79 rfl) fun h25=>ye (ji x2) (zF h25 rfl) (zF h24 rfl) (xN (by first | rfl | simp [V.toks,V.tokss,Enc.toks_enc,yd])) (gz [(1,ji x2),(2,.fn 68 [.agg [eL x3.fs.1.a]] []),(3,.ref (.bx 3) 0 [] (.agg [eL x1.a])),(6,nI),(7,_),(8,ji x43)] ⟨zd h1 rfl,zd h2 (za4 (zy (yL (zy uE rfl)) rfl) rfl),zd h3 (zH rfl rfl (yL (zy uE rfl))),zd h6 rfl,zd h7 Xu,zd h8 rfl⟩ ?_)
     rintro s ⟨h1,h2,h3,h6,h7,h8⟩
     refine .nsq (.seq (rg (g1 3 (.agg [eL x1.a]) h3 fun h26=>?_)))
     obtain ⟨r80,Er80,h⟩:=zb h
     refine gcF [Enc.enc (x1:(S1 LI))] (zf h26 rfl (Enc.erase_enc (x1:(S1 LI))) zA) (H.c35 _ _ Er80) H.g35 (gm h8 fun h28=>g2 27 28 (ji (yW .i64 r80 x43)) (rf (ji r80)) h28 fun h29=>?_)
     obtain ⟨r81,Er81,h⟩:=zb h
     refine gcF [Enc.enc (yW .i64 r80 x43:Int)] (zf h29 rfl rfl zA) (H.c77 _ _ Er81) H.g77 (gl r81 rfl fun h31=>g0 (ji 0) fun h32=>gq (.nsq (.block (.loop ?_))))
     exact zeN H x2 x3 x1 x43 r81 (zO F x2 x3 x1 k) ih F (x42.set x43.toNat x2) 0 _ ⟨h1,h2,h3,h6,h7,h8,rfl,h31,h32⟩ h
   refine .exit (.esq (.elp (.ebk (.nsq (.seq (rg (gm h7 fun h64=>gm h64 fun h6=>yS (yu (r:=7) (x:=6) (v:=_) h6 rfl (fun s4 hz4=>?_)))))))))
   refine ez [(6,oI 6 [] (.of x42))] (hz4 6 _ _ h6 (zq (r:=7) (p:=[]) rfl rfl)) ?_
   rintro s h6
   refine .nsq (.ret ?_)
   obtain rfl:=oi h
   exact rrA (zo h6) (wY (wy (o:=.of x42)) (xD rfl))
def yp (F:Nat) (x1:(S1 LI)) (x2:Int) (x3:(Cl 68 ((S1 LI)×Unit) Unit)):Option LI:=
 (xa F x1).bind fun r4=>
 (mkN (w64 (r4 + 1)) (0:Int)).bind fun mk5=>
 (xa F x1).bind fun r6=>
 zO F x2 x3 x1 F mk5 r6
theorem zvf (H:Q3 D σ F) (x1:(S1 LI)) (x2:Int) (x3:(Cl 68 ((S1 LI)×Unit) Unit)) (s:Nat→V) (hs:zr [(0,.agg [eL x1.a]),(1,ji x2),(2,.fn 68 [.agg [eL x3.fs.1.a]] [])] s) (h:yp F x1 x2 x3=some r):Run D σ (Kx r) (.run znb []) s:=by
 unfold yp at h
 obtain ⟨h0,h1,h2⟩:=hs
 refine .seq (zw (z3 ?_))
 refine ez [(0,_),(1,_),(2,_),(3,_)] ⟨za h0 rfl (zW (zh me zB)),za h1 rfl mi,za h2 rfl (LK (zh (zW (zh me zB)) zB) zB),ze rfl⟩ ?_
 rintro s ⟨h0,h1,h2,h3⟩
 refine xo (.agg [eL x1.a]) (zF h0 rfl) h3 rfl (g0 nI fun h6=>gq (.nsq (.seq (zw (z3 ?_)))))
 refine ez [(1,_),(2,_),(3,_),(6,_),(15,_)] ⟨za h1 rfl mi,za h2 rfl (LK (zh (zW (zh me zB)) zB) zB),za rfl rfl (zj rfl (zW (zh me zB))),za h6 rfl rfl,ze rfl⟩ ?_
 rintro s ⟨h1,h2,h3,h6,h15⟩
 refine g1 3 (.agg [eL x1.a]) h3 fun h12=>?_
 obtain ⟨r4,Er4,h⟩:=zb h
 refine gcF [Enc.enc (x1:(S1 LI))] (zf h12 rfl (Enc.erase_enc (x1:(S1 LI))) zA) (H.c35 _ _ Er4) H.g35 (g1 13 (ji (w64 (r4 + 1))) (rf (ji r4)) fun h14=>?_)
 obtain ⟨mk5,Emk5,h⟩:=zb h
 refine zdz (0:Int) h14 rfl h15 Emk5 (gm (rf (oI 15 [] (.of mk5))) fun h7=>yS (yu (r:=15) (x:=7) (v:=_) h7 rfl (fun s3 hz3=>?_)))
 refine ez [(1,ji x2),(2,.fn 68 [.agg [eL x3.fs.1.a]] []),(3,.ref (.bx 3) 0 [] (.agg [eL x1.a])),(6,nI),(7,oI 7 [] (.of mk5))] ⟨hz3 1 _ _ h1 mi,hz3 2 _ _ h2 (LK (zh (zW (zh me zB)) zB) zB),hz3 3 _ _ h3 (zj rfl (zW (zh me zB))),hz3 6 _ _ h6 rfl,hz3 7 _ _ h7 (zq (r:=15) (p:=[]) rfl rfl)⟩ ?_
 rintro s ⟨h1,h2,h3,h6,h7⟩
 refine .nsq (.seq (.seq (rg (g1 3 (.agg [eL x1.a]) h3 fun h16=>?_))))
 obtain ⟨r6,Er6,h⟩:=zb h
 refine gcF [Enc.enc (x1:(S1 LI))] (zf h16 rfl (Enc.erase_enc (x1:(S1 LI))) zA) (H.c35 _ _ Er6) H.g35 (gm (rf (ji r6)) fun h8=>gq (.nsq (.block (.loop ?_))))
 exact zeA H x2 x3 x1 F mk5 r6 _ ⟨h1,h2,h3,h6,h7,h8⟩ h
end
def zjO (F:Nat):Ent:=ent 67 (fun (x:((S1 LI)×Int×(Cl 68 ((S1 LI)×Unit) Unit)×Unit))=>yp F x.1 x.2.1 x.2.2.1) (fun (r:LI)=>(eL r)) 0 false [(2,68)]
abbrev zmK (D:List V→Option V) (F:Nat):Prop:=∀ (x0:(S1 LI)) (x1:Int) (x2:(Cl 68 ((S1 LI)×Unit) Unit)) r,yp F x0 x1 x2=some r→D [Enc.enc x0,Enc.enc x1,Arg.arg x2]=some (eL r)
theorem zrl {F:Nat}:zmK (zjO F).den F:=fun x0 x1 x2 _ h=>zU (x0,x1,x2,()) h
theorem zqt (hF:zG Try.prog D σ) (H:Q3 D σ F):(zjO F).Ok Try.prog:=okZ (f:=67) Try.func67 fun ⟨x0,x1,x2,_⟩ y hy=>cR hF Try.func67 c67s2 (zvf H x0 x1 x2 _ ⟨rfl,rfl,rfl⟩ hy)
def zti:AC:=(.seq (rr [jv 3 (.load (.ag [.p]) (.t 1)),jv 4 (.load (.ag [.p]) (.t 1)),jv 5 (.fn 68 [.t 4] []),jx 6 (.call (jf 67) [.t 3,jn 0,.t 5]),jv 7 (.idx (.t 6) (jn 0) 1),jl 8 7,jm 2 8]) .ret)
def A46:AC:=(.seq (.reg [.clr [1]] [jx 1 (.box (.t 0)),jv 2 (.mov (jn 0))] []) zti)
def zxj:List An:=[⟨0,[.clr [1]],[],[],[]⟩]
theorem c46:cq Try.prog Try.f46 zxj=some A46:=by kernel_rfl
structure H46 (D:Den) (σ:Sig) (F:Nat):Prop where
 c67s2:zmK (D 67) F
 g67s2:σ 67=some (0,false)
abbrev R46 (r:Int):(Nat→V)→Prop:=RR Try.prog [.tmp 2] 0 false (Enc.enc (r:Int))
section
variable {r:Int}
def vS (F:Nat) (x1:(S1 LI)):Option Int:=
 (yp F x1 0 (Cl.mk (x1,()) ():(Cl 68 ((S1 LI)×Unit) Unit))).bind fun r2=>
 (idx r2 0).bind fun v3=>
 some v3
theorem t46 (H:H46 D σ F) (x1:(S1 LI)) (s:Nat→V) (hs:zr [(0,.agg [eL x1.a])] s) (h:vS F x1=some r):Run D σ (R46 r) (.run A46 []) s:=by
 unfold vS at h
 have h0:=hs
 refine .seq (zw (z3 ?_))
 refine ez [(0,_),(1,_)] ⟨za h0 rfl (zW (zh me zB)),ze rfl⟩ ?_
 rintro s ⟨h0,h1⟩
 refine xo (.agg [eL x1.a]) (zF h0 rfl) h1 rfl (g0 (ji 0) fun h2=>gq (.nsq (.seq (rg (g1 1 (.agg [eL x1.a]) (rf (.ref (.bx 1) 0 [] (.agg [eL x1.a]))) fun h3=>g1 1 (.agg [eL x1.a]) (rf (.ref (.bx 1) 0 [] (.agg [eL x1.a]))) fun h4=>g1 4 (.fn 68 [.agg [eL x1.a]] []) h4 fun h5=>?_)))))
 obtain ⟨r2,Er2,h⟩:=zb h
 refine gcF [Enc.enc (x1:(S1 LI)),Enc.enc (0:Int),Arg.arg ((Cl.mk (x1,()) ():(Cl 68 ((S1 LI)×Unit) Unit)):(Cl 68 ((S1 LI)×Unit) Unit))] (zf h3 rfl (Enc.erase_enc (x1:(S1 LI))) (zf (v:=ji 0) rfl rfl rfl (zf h5 rfl (zdQ (YP (Enc.erase_enc (x1:(S1 LI))) Zf) Zf) zA))) (H.c67s2 _ _ _ _ Er2) H.g67s2 ?_
 obtain ⟨v3,Ev3,h⟩:=zb h
 refine gv (.ref .sh 0 [] (ji v3)) (yn (t:=.sh) (lo:=0) (xs:=r2) rfl rfl Ev3 rfl rfl) fun h7=>g1 7 (ji v3) h7 fun h8=>gm h8 fun h2=>gq (.nsq (.ret ?_))
 obtain rfl:=oi h
 exact rrA (zo h2) rfl
end
def e46 (F:Nat):Ent:=ent 46 (fun (x:((S1 LI)×Unit))=>vS F x.1) (fun (r:Int)=>(Enc.enc (r:Int))) 0 false []
abbrev C46 (D:List V→Option V) (F:Nat):Prop:=∀ (x0:(S1 LI)) r,vS F x0=some r→D [Enc.enc x0]=some (Enc.enc (r:Int))
theorem p46 {F:Nat}:C46 (e46 F).den F:=fun x0 _ h=>zU (x0,()) h
theorem o46 (hF:zG Try.prog D σ) (H:H46 D σ F):(e46 F).Ok Try.prog:=okZ (f:=46) Try.func46 fun ⟨x0,_⟩ y hy=>cR hF Try.func46 c46 (t46 H x0 _ rfl hy)
def zvq:AC:=(.cond (.t 6) (.seq (rr [jv 2 (.mov (jn 0)),jv 3 (.mov kf)]) .ret) .skip)
def zrk:AC:=(.seq (rr [jv 7 (.load (.ag [.s,.p]) (.t 1)),jx 8 (.call (jf 33) [.t 7]),jx 9 (.call (jf 46) [.t 8]),jm 2 9,jv 3 (.mov kt)]) .ret)
def zsi:AC:=(.seq (.seq (rr [jv 4 (.load (.ag [.s,.p]) (.t 1)),jx 5 (.call (jf 26) [.t 4]),jv 6 (.un .not (.t 5))]) zvq) zrk)
def A20:AC:=(.seq (.reg [.clr [1]] [jx 1 (.box (.t 0)),jv 2 (.mov (jn 0)),jv 3 (.mov kf)] []) zsi)
def zw9:List An:=[⟨0,[.clr [1]],[],[],[]⟩]
theorem c20:cq Try.prog Try.f20 zw9=some A20:=by kernel_rfl
structure H20 (D:Den) (σ:Sig) (F:Nat):Prop where
 c26:C26 (D 26) F
 g26:σ 26=some (0,false)
 c33:C33 (D 33) F
 g33:σ 33=some (0,false)
 c46:C46 (D 46) F
 g46:σ 46=some (0,false)
abbrev R20 (r:(Int×Bool)):(Nat→V)→Prop:=RR Try.prog [.tmp 2,.tmp 3] 0 false (.tup [Enc.enc (r.1:Int),Enc.enc (r.2:Bool)])
section
variable {r:(Int×Bool)}
def wK (F:Nat) (x1:GR):Option (Int×Bool):=
 (vh F x1).bind fun r2=>
 bif (!r2) then
  some (0,false)
 else
  (YA F x1).bind fun r3=>
  (vS F r3).bind fun r4=>
  some (r4,true)
theorem t20 (H:H20 D σ F) (x1:GR) (s:Nat→V) (hs:zr [(0,gV x1)] s) (h:wK F x1=some r):Run D σ (R20 r) (.run A20 []) s:=by
 unfold wK at h
 have h0:=hs
 refine .seq (zw (z3 ?_))
 refine ez [(0,_),(1,_)] ⟨za h0 rfl mIE,ze rfl⟩ ?_
 rintro s ⟨h0,h1⟩
 refine xo (gV x1) (zF h0 rfl) h1 rfl (g0 (ji 0) fun h2=>g0 (jb false) fun h3=>gq (.nsq (.seq (.seq (rg (g1 1 (gV x1) (rf (bG 1 x1)) fun h4=>?_))))))
 obtain ⟨r2,Er2,h⟩:=zb h
 refine gcF [Enc.enc (x1:GR)] (zf h4 rfl (Enc.erase_enc (x1:GR)) zA) (H.c26 _ _ Er2) H.g26 (g1 5 (jb (!r2)) (rf (jb r2)) fun h6=>gq (.nsq (zn h6 h (fun h=>?_) (fun h=>?_))))
 · refine .seq (rg (g0 (ji 0) fun h2=>g0 (jb false) fun h3=>gq (.nsq (.ret ?_))))
   obtain rfl:=oi h
   exact rrB (zo h2) (zo h3) rfl
 refine .skip (.nsq (.seq (rg (g1 1 (gV x1) (rf (bG 1 x1)) fun h7=>?_))))
 obtain ⟨r3,Er3,h⟩:=zb h
 refine gcF [Enc.enc (x1:GR)] (zf h7 rfl (Enc.erase_enc (x1:GR)) zA) (H.c33 _ _ Er3) H.g33 ?_
 obtain ⟨r4,Er4,h⟩:=zb h
 refine gcF [Enc.enc (r3:(S1 LI))] (zf (v:=.agg [eL r3.a]) rfl rfl (Enc.erase_enc (r3:(S1 LI))) zA) (H.c46 _ _ Er4) H.g46 (gm (rf (ji r4)) fun h2=>g0 (jb true) fun h3=>gq (.nsq (.ret ?_)))
 obtain rfl:=oi h
 exact rrB (zo h2) (zo h3) rfl
end
def e20 (F:Nat):Ent:=ent 20 (fun (x:(GR×Unit))=>wK F x.1) (fun (r:(Int×Bool))=>(.tup [Enc.enc (r.1:Int),Enc.enc (r.2:Bool)])) 0 false []
abbrev C20 (D:List V→Option V) (F:Nat):Prop:=∀ (x0:GR) r,wK F x0=some r→D [Enc.enc x0]=some (.tup [Enc.enc (r.1:Int),Enc.enc (r.2:Bool)])
theorem p20 {F:Nat}:C20 (e20 F).den F:=fun x0 _ h=>zU (x0,()) h
theorem o20 (hF:zG Try.prog D σ) (H:H20 D σ F):(e20 F).Ok Try.prog:=okZ (f:=20) Try.func20 fun ⟨x0,_⟩ y hy=>cR hF Try.func20 c20 (t20 H x0 _ rfl hy)
def zrG:AC:=(.cond (.t 209) (.seq (rr [jv 2 (.mov kf)]) .ret) .skip)
def zuI:AC:=(.seq (rr [jm 210 32,jm 211 210,jg 212 211 true (.mov (.t 31)),jg 213 211 true (.mov (.t 13)),jg 214 211 true (.bin .eql (.t 212) (.t 213)),jv 215 (.pick (.t 211) (.t 214) kf),jm 216 215,jg 217 216 true (.mov (.t 10)),jg 218 216 true (.un .not (.t 217)),jg 219 216 true (.mov (.t 218)),jg 220 219 false (.mov (.t 9)),jg 221 219 false (.mov (.t 13)),jg 222 219 false (.bin .geq (.t 220) (.t 221)),jg 223 216 true (.pick (.t 219) kt (.t 222)),jv 224 (.pick (.t 216) (.t 223) kf),jm 2 224]) .ret)
def zw1:AC:=(.cond (.t 186) (.seq (rr [jv 2 (.mov kt)]) .ret) .skip)
def zv4:AC:=(.seq (.seq (rr [jm 198 34,jm 199 198,jg 200 199 true (.fld (.t 3) 0 0),jg 201 199 true (.load .s (.t 200)),jg 202 199 true (.bin .gtr (.t 201) (jn 0)),jv 203 (.pick (.t 199) (.t 202) kf),jm 204 203,jg 205 204 true (.mov (.t 33)),jg 206 204 true (.mov (.t 13)),jg 207 204 true (.bin .sub (.t 206) (jn 1)),jg 208 204 true (.bin .gtr (.t 205) (.t 207)),jv 209 (.pick (.t 204) (.t 208) kf)]) zrG) zuI)
def zwL:AC:=(.seq (rr [jv 194 (.load (.ag [.s,.p]) (.t 3)),jx 195 (.call (jf 20) [.t 194]),jm 193 195,jv 196 (.extS (.t 193) 0),jv 197 (.extS (.t 193) 1),jm 33 196,jm 34 197]) zv4)
def zxg:AC:=(.seq (rr [jv 188 (.load (.ag [.s,.p]) (.t 3)),jm 189 17,jx 190 (.call (jf 8) [.t 188,.t 189]),jm 187 190,jv 191 (.extS (.t 187) 0),jv 192 (.extS (.t 187) 1),jm 31 191,jm 32 192]) zwL)
def znJ:AC:=(.seq (.seq (rr [jm 185 14,jv 186 (.un .not (.t 185))]) zw1) zxg)
def zqM:AC:=(.cond (.t 184) (.seq (rr [jv 2 (.mov kf)]) .ret) .skip)
def ztK:AC:=(.cond (.t 160) (.seq (rr [jv 2 (.mov kf)]) .ret) .skip)
def zp1:AC:=(.seq (rr [jm 173 23,jm 174 22,jm 175 27,jv 176 (.bin .geq (.t 174) (.t 175)),jv 177 (.beq true (.t 173) (.t 176)),jm 178 177,jg 179 178 false (.mov (.t 23)),jg 180 178 false (.mov (.t 179)),jg 181 180 true (.mov (.t 29)),jg 182 180 true (.un .not (.t 181)),jg 183 178 false (.pick (.t 180) (.t 182) kf),jv 184 (.pick (.t 178) kt (.t 183))]) zqM)
def zr3:AC:=(.seq (rr [jv 168 (.load (.ag [.s,.p]) (.t 21)),jm 169 22,jx 170 (.call (jf 19) [.t 168,.t 169]),jm 167 170,jv 171 (.extS (.t 167) 0),jv 172 (.extS (.t 167) 1),jm 29 171,jm 30 172]) zp1)
def zrY:AC:=(.cond (.t 161) (.seq (rr [jv 163 (.load (.ag [.s,.p]) (.t 21)),jx 164 (.call (jf 10) [.t 163]),jm 162 164,jv 165 (.extS (.t 162) 0),jv 166 (.extS (.t 162) 1),jm 27 165,jm 28 166]) zr3) .skip)
def zmZ:AC:=(.seq (.seq (rr [jm 161 24]) zrY) znJ)
def ztp:AC:=(.cond (.t 36) (.seq (rr [jv 2 (.mov kt)]) .ret) .skip)
def zrv:AC:=(.seq (.seq (rr [jm 104 5,jm 105 7,jv 106 (.beq true (.t 104) (.t 105)),jm 107 106,jg 108 107 false (.mov (.t 6)),jg 109 107 false (.mov (.t 8)),jg 110 107 false (.beq true (.t 108) (.t 109)),jv 111 (.pick (.t 107) kt (.t 110)),jm 112 111,jg 113 112 false (.mov (.t 9)),jg 114 112 false (.mov (.t 11)),jg 115 112 false (.bin .neq (.t 113) (.t 114)),jv 116 (.pick (.t 112) kt (.t 115)),jm 117 116,jg 118 117 false (.mov (.t 10)),jg 119 117 false (.mov (.t 12)),jg 120 117 false (.beq true (.t 118) (.t 119)),jv 121 (.pick (.t 117) kt (.t 120)),jm 122 121,jg 123 122 false (.mov (.t 10)),jg 124 122 false (.mov (.t 6)),jg 125 122 false (.mov (.t 124)),jg 126 125 true (.mov (.t 5)),jg 127 122 false (.pick (.t 125) (.t 126) kf),jg 128 122 false (.beq true (.t 123) (.t 127)),jv 129 (.pick (.t 122) kt (.t 128)),jm 130 129,jg 131 130 false (.mov (.t 13)),jg 132 130 false (.mov (.t 15)),jg 133 130 false (.bin .neq (.t 131) (.t 132)),jv 134 (.pick (.t 130) kt (.t 133)),jm 135 134,jg 136 135 false (.mov (.t 14)),jg 137 135 false (.mov (.t 16)),jg 138 135 false (.beq true (.t 136) (.t 137)),jv 139 (.pick (.t 135) kt (.t 138)),jm 140 139,jg 141 140 false (.mov (.t 18)),jg 142 140 false (.mov (.t 20)),jg 143 140 false (.beq true (.t 141) (.t 142)),jv 144 (.pick (.t 140) kt (.t 143)),jm 145 144,jg 146 145 false (.mov (.t 17)),jg 147 145 false (.mov (.t 19)),.mk (some 148) (some (145,false)) false (.call (jf 18) [.t 146,.t 147]),jg 149 145 false (.un .not (.t 148)),jv 150 (.pick (.t 145) kt (.t 149)),jm 151 150,jg 152 151 false (.mov (.t 23)),jg 153 151 false (.mov (.t 25)),jg 154 151 false (.beq true (.t 152) (.t 153)),jv 155 (.pick (.t 151) kt (.t 154)),jm 156 155,jg 157 156 false (.mov (.t 24)),jg 158 156 false (.mov (.t 26)),jg 159 156 false (.beq true (.t 157) (.t 158)),jv 160 (.pick (.t 156) kt (.t 159))]) ztK) zmZ)
def zsk:AC:=(.seq (rr [jv 99 (.load (.ag [.s,.p]) (.t 21)),jm 100 22,jx 101 (.call (jf 17) [.t 99,.t 100]),jm 98 101,jv 102 (.extS (.t 98) 0),jv 103 (.extS (.t 98) 1),jm 25 102,jm 26 103]) zrv)
def zss:AC:=(.seq (rr [jv 93 (.load (.ag [.s,.p]) (.t 21)),jm 94 22,jx 95 (.call (jf 16) [.t 93,.t 94]),jm 92 95,jv 96 (.extS (.t 92) 0),jv 97 (.extS (.t 92) 1),jm 23 96,jm 24 97]) zsk)
def zsa:AC:=(.seq (.reg [.clr [21]] [jm 87 0,jx 88 (.call (jf 15) [.t 87,jn 1]),jx 89 (.call (jf 14) [.t 88]),jm 86 89,jv 90 (.ext (.t 86) 0),jv 91 (.extS (.t 86) 1),jx 21 (.alloc (.agg [i0,.sl .nl (.ag [.s,.s]) 0 []])),jz (.store (.ag [.s,.p]) (.t 21) (.t 90)),jm 22 91] []) zss)
def ztZ:AC:=(.seq (rr [jv 82 (.load (.ag [.s,.p]) (.t 3)),jx 83 (.call (jf 13) [.t 82]),jm 81 83,jv 84 (.ext (.t 81) 0),jv 85 (.extS (.t 81) 1),jm 19 84,jm 20 85]) zsa)
def zu1:AC:=(.seq (rr [jv 77 (.load (.ag [.s,.p]) (.t 3)),jx 78 (.call (jf 12) [.t 77]),jm 76 78,jv 79 (.ext (.t 76) 0),jv 80 (.extS (.t 76) 1),jm 17 79,jm 18 80]) ztZ)
def zta:AC:=(.seq (rr [jv 72 (.load (.ag [.s,.p]) (.t 3)),jx 73 (.call (jf 11) [.t 72]),jm 71 73,jv 74 (.extS (.t 71) 0),jv 75 (.extS (.t 71) 1),jm 15 74,jm 16 75]) zu1)
def ztI:AC:=(.seq (rr [jv 67 (.load (.ag [.s,.p]) (.t 3)),jx 68 (.call (jf 10) [.t 67]),jm 66 68,jv 69 (.extS (.t 66) 0),jv 70 (.extS (.t 66) 1),jm 13 69,jm 14 70]) zta)
def zvz:AC:=(.seq (rr [jv 61 (.load (.ag [.s,.p]) (.t 3)),jm 62 4,jx 63 (.call (jf 9) [.t 61,.t 62]),jm 60 63,jv 64 (.extS (.t 60) 0),jv 65 (.extS (.t 60) 1),jm 11 64,jm 12 65]) ztI)
def zsb:AC:=(.seq (rr [jv 55 (.load (.ag [.s,.p]) (.t 3)),jm 56 4,jx 57 (.call (jf 8) [.t 55,.t 56]),jm 54 57,jv 58 (.extS (.t 54) 0),jv 59 (.extS (.t 54) 1),jm 9 58,jm 10 59]) zvz)
def zs5:AC:=(.seq (rr [jv 49 (.load (.ag [.s,.p]) (.t 3)),jm 50 4,jx 51 (.call (jf 7) [.t 49,.t 50]),jm 48 51,jv 52 (.extS (.t 48) 0),jv 53 (.extS (.t 48) 1),jm 7 52,jm 8 53]) zsb)
def zsh:AC:=(.seq (rr [jv 43 (.load (.ag [.s,.p]) (.t 3)),jm 44 4,jx 45 (.call (jf 6) [.t 43,.t 44]),jm 42 45,jv 46 (.extS (.t 42) 0),jv 47 (.extS (.t 42) 1),jm 5 46,jm 6 47]) zs5)
def zsc:AC:=(.seq (.reg [.clr [3]] [jm 38 0,jx 39 (.call (jf 5) [.t 38]),jm 37 39,jv 40 (.ext (.t 37) 0),jv 41 (.ext (.t 37) 1),jx 3 (.alloc (.agg [i0,.sl .nl (.ag [.s,.s]) 0 []])),jz (.store (.ag [.s,.p]) (.t 3) (.t 40)),jm 4 41] []) zsh)
def zuO:AC:=(.seq (.seq (rr [jm 35 0,jx 36 (.call (jf 4) [.t 35])]) ztp) zsc)
def A3:AC:=(.seq (rr [jv 2 (.mov kf)]) zuO)
def an3:List An:=[⟨3,[.clr [3]],[],[],[]⟩,⟨12,[.clr [21]],[],[],[]⟩]
theorem c3:cq Try.prog Try.f3 an3=some A3:=by kernel_rfl
structure H3 (D:Den) (σ:Sig) (F:Nat):Prop where
 c4:C4 (D 4) F
 g4:σ 4=some (0,false)
 c5:C5 (D 5) F
 g5:σ 5=some (0,true)
 c6:C6 (D 6) F
 g6:σ 6=some (0,false)
 c7:C7 (D 7) F
 g7:σ 7=some (0,false)
 c8:C8 (D 8) F
 g8:σ 8=some (0,false)
 c9:C9 (D 9) F
 g9:σ 9=some (0,false)
 c10:C10 (D 10) F
 g10:σ 10=some (0,false)
 c11:C11 (D 11) F
 g11:σ 11=some (0,false)
 c12:C12 (D 12) F
 g12:σ 12=some (0,true)
 c13:C13 (D 13) F
 g13:σ 13=some (0,true)
 c15:C15 (D 15) F
 g15:σ 15=some (0,false)
 c14:C14 (D 14) F
 g14:σ 14=some (0,true)
 c16:C16 (D 16) F
 g16:σ 16=some (0,false)
 c17:C17 (D 17) F
 g17:σ 17=some (0,false)
 c18:C18 (D 18) F
 g18:σ 18=some (0,false)
 c19:C19 (D 19) F
 g19:σ 19=some (0,false)
 c20:C20 (D 20) F
 g20:σ 20=some (0,false)
abbrev R3 (r:Bool):(Nat→V)→Prop:=RR Try.prog [.tmp 2] 0 false (Enc.enc (r:Bool))
section
variable {r:Bool}
def vJ (F:Nat) (r6:(Int×Bool)) (r8:(Int×Bool)) (r22:(Int×Bool))  (x24:Bool):Option Bool:=
 bif x24 then
  some false
 else
  bif r22.2 then
   bif (r22.1 == r8.1) then
    bif (!r6.2) then
     some true
    else
     some (decide (r6.1≥r8.1))
   else
    some false
  else
   some false
theorem zbe (H:H3 D σ F) (r6:(Int×Bool)) (r8:(Int×Bool)) (r22:(Int×Bool))  (x24:Bool) (s:Nat→V) (hs:zr [(2,jb false),(9,ji r6.1),(10,jb r6.2),(13,ji r8.1),(31,ji r22.1),(32,jb r22.2),(209,jb x24)] s) (h:vJ F r6 r8 r22  x24=some r):Run D σ (R3 r) (.nrm [.sq zrG,.sq zuI]) s:=by
 unfold vJ at h
 obtain ⟨h2,h9,h10,h13,h31,h32,h209⟩:=hs
 refine .nsq (zn h209 h (fun h=>?_) (fun h=>?_))
 · refine .seq (rg (g0 (jb false) fun h2=>gq (.nsq (.ret ?_))))
   obtain rfl:=oi h
   exact rrA (zo h2) rfl
 refine .skip (.nsq (.seq (rg (gm h32 fun h210=>gm h210 fun h211=>z4 h (fun hg2 h=>?_) (fun hg2 h=>?_)))))
 · refine zm (ct h211 hg2) (gm h31 fun h212=>zm (ct h211 hg2) (gm h13 fun h213=>zm (ct h211 hg2) (g2 212 213 (jb (r22.1 == r8.1)) h212 h213 fun h214=>g2 211 214 (jb (r22.1 == r8.1)) (ct h211 hg2) h214 fun h215=>gm h215 fun h216=>z4 h (fun hg7 h=>?_) (fun hg7 h=>?_))))
   · refine zm (ct h216 hg7) (gm h10 fun h217=>zm (ct h216 hg7) (g1 217 (jb (!r6.2)) h217 fun h218=>zm (ct h216 hg7) (gm h218 fun h219=>z4 h (fun hg10 h=>?_) (fun hg10 h=>?_))))
     · iterate 3 refine zR (ct h219 hg10) ?_
       refine zm (ct h216 hg7) (g2 219 222 (jb true) (ct h219 hg10) (rf (.tup [])) fun h223=>g2 216 223 (jb true) (ct h216 hg7) h223 fun h224=>gm h224 fun h2=>gq (.nsq (.ret ?_)))
       obtain rfl:=oi h
       exact rrA (zo h2) rfl
     refine zm (ct h219 hg10) (gm h9 fun h220=>zm (ct h219 hg10) (gm h13 fun h221=>zm (ct h219 hg10) (g2 220 221 (jb (decide (r6.1≥r8.1))) h220 h221 fun h222=>zm (ct h216 hg7) (g2 219 222 (jb (decide (r6.1≥r8.1))) (ct h219 hg10) h222 fun h223=>g2 216 223 (jb (decide (r6.1≥r8.1))) (ct h216 hg7) h223 fun h224=>gm h224 fun h2=>gq (.nsq (.ret ?_))))))
     obtain rfl:=oi h
     exact rrA (zo h2) rfl
   iterate 3 refine zR (ct h216 hg7) ?_
   iterate 3 refine YF rfl ?_
   refine zR (ct h216 hg7) (g2 216 223 (jb false) (ct h216 hg7) (rf (.tup [])) fun h224=>gm h224 fun h2=>gq (.nsq (.ret ?_)))
   obtain rfl:=oi h
   exact rrA (zo h2) rfl
 iterate 3 refine zR (ct h211 hg2) ?_
 refine g2 211 214 (jb false) (ct h211 hg2) (rf (.tup [])) fun h215=>gm h215 fun h216=>zR h216 ?_
 iterate 2 refine zR h216 ?_
 iterate 3 refine YF rfl ?_
 refine zR h216 (g2 216 223 (jb false) h216 (rf (.tup [])) fun h224=>gm h224 fun h2=>gq (.nsq (.ret ?_)))
 obtain rfl:=oi h
 exact rrA (zo h2) rfl
def uS (F:Nat) (r3:(GR×LI)) (r6:(Int×Bool)) (r8:(Int×Bool)) (r10:(LI×Bool))  :Option Bool:=
 bif (!r8.2) then
  some true
 else
  (wL F r3.1 r10.1).bind fun r22=>
  (wK F r3.1).bind fun r23=>
  bif r23.2 then
   bif decide (r3.1.1 > 0) then
    vJ F r6 r8 r22 (decide (r23.1 > (w64 (r8.1 - 1))))
   else
    vJ F r6 r8 r22 false
  else
   vJ F r6 r8 r22 false
theorem zgP (H:H3 D σ F) (r3:(GR×LI)) (r6:(Int×Bool)) (r8:(Int×Bool)) (r10:(LI×Bool))   (s:Nat→V) (hs:zr [(2,jb false),(3,bG 3 r3.1),(9,ji r6.1),(10,jb r6.2),(13,ji r8.1),(14,jb r8.2),(17,eL r10.1)] s) (h:uS F r3 r6 r8 r10  =some r):Run D σ (R3 r) (.nrm [.sq znJ]) s:=by
 unfold uS at h
 obtain ⟨h2,h3,h9,h10,h13,h14,h17⟩:=hs
 refine .nsq (.seq (.seq (rg (gm h14 fun h185=>g1 185 (jb (!r8.2)) h185 fun h186=>gq (.nsq (zn h186 h (fun h=>?_) (fun h=>?_)))))))
 · refine .seq (rg (g0 (jb true) fun h2=>gq (.nsq (.ret ?_))))
   obtain rfl:=oi h
   exact rrA (zo h2) rfl
 refine .skip (.nsq (.seq (rg (g1 3 (gV r3.1) h3 fun h188=>gm h17 fun h189=>?_))))
 obtain ⟨r22,Er22,h⟩:=zb h
 refine gcF [Enc.enc (r3.1:GR),eL r10.1] (zf h188 rfl (Enc.erase_enc (r3.1:GR)) (zf h189 rfl (Enc.erase_enc (r10.1:LI)) zA)) (H.c8 _ _ _ Er22) H.g8 (gm (rf (.tup [ji r22.1,jb r22.2])) fun h187=>g1 187 (ji r22.1) h187 fun h191=>g1 187 (jb r22.2) h187 fun h192=>gm h191 fun h31=>gm h192 fun h32=>gq (.nsq (.seq (rg (g1 3 (gV r3.1) h3 fun h194=>?_)))))
 obtain ⟨r23,Er23,h⟩:=zb h
 refine gcF [Enc.enc (r3.1:GR)] (zf h194 rfl (Enc.erase_enc (r3.1:GR)) zA) (H.c20 _ _ Er23) H.g20 (gm (rf (.tup [ji r23.1,jb r23.2])) fun h193=>g1 193 (ji r23.1) h193 fun h196=>g1 193 (jb r23.2) h193 fun h197=>gm h196 fun h33=>gm h197 fun h34=>gz [(2,_),(3,_),(9,_),(10,_),(13,_),(31,_),(32,_),(33,_),(34,_)] ⟨h2,h3,h9,h10,h13,h31,h32,h33,h34⟩ ?_)
 rintro s ⟨h2,h3,h9,h10,h13,h31,h32,h33,h34⟩
 refine .nsq (.seq (.seq (rg (gm h34 fun h198=>gm h198 fun h199=>z4 h (fun hg2 h=>?_) (fun hg2 h=>?_)))))
 · refine zm (ct h199 hg2) (g1 3 (.ref (.bx 3) 0 [0] (ji r3.1.1)) h3 fun h200=>zm (ct h199 hg2) (g1 200 (ji r3.1.1) h200 fun h201=>zm (ct h199 hg2) (g1 201 (jb (decide (r3.1.1 > 0))) h201 fun h202=>g2 199 202 (jb (decide (r3.1.1 > 0))) (ct h199 hg2) h202 fun h203=>gm h203 fun h204=>z4 h (fun hg7 h=>?_) (fun hg7 h=>?_))))
   · refine zm (ct h204 hg7) (gm h33 fun h205=>zm (ct h204 hg7) (gm h13 fun h206=>zm (ct h204 hg7) (g1 206 (ji (w64 (r8.1 - 1))) h206 fun h207=>zm (ct h204 hg7) (g2 205 207 (jb (decide (r23.1 > (w64 (r8.1 - 1))))) h205 h207 fun h208=>g2 204 208 (jb (decide (r23.1 > (w64 (r8.1 - 1))))) (ct h204 hg7) h208 fun h209=>gq ?_))))
     exact zbe H r6 r8 r22 (decide (r23.1 > (w64 (r8.1 - 1)))) _ ⟨h2,h9,h10,h13,h31,h32,h209⟩ h
   iterate 4 refine zR (ct h204 hg7) ?_
   refine g2 204 208 (jb false) (ct h204 hg7) (rf (.tup [])) fun h209=>gq ?_
   exact zbe H r6 r8 r22 false _ ⟨h2,h9,h10,h13,h31,h32,h209⟩ h
 iterate 3 refine zR (ct h199 hg2) ?_
 refine g2 199 202 (jb false) (ct h199 hg2) (rf (.tup [])) fun h203=>gm h203 fun h204=>zR h204 ?_
 iterate 3 refine zR h204 ?_
 refine g2 204 208 (jb false) h204 (rf (.tup [])) fun h209=>gq ?_
 exact zbe H r6 r8 r22 false _ ⟨h2,h9,h10,h13,h31,h32,h209⟩ h
def Z6 (F:Nat) (r3:(GR×LI)) (r6:(Int×Bool)) (r8:(Int×Bool)) (r10:(LI×Bool))  (x27:Bool):Option Bool:=
 bif x27 then
  some false
 else
  uS F r3 r6 r8 r10
theorem zcn (H:H3 D σ F) (r3:(GR×LI)) (r6:(Int×Bool)) (r8:(Int×Bool)) (r10:(LI×Bool))  (x27:Bool) (s:Nat→V) (hs:zr [(2,jb false),(3,bG 3 r3.1),(9,ji r6.1),(10,jb r6.2),(13,ji r8.1),(14,jb r8.2),(17,eL r10.1),(184,jb x27)] s) (h:Z6 F r3 r6 r8 r10  x27=some r):Run D σ (R3 r) (.nrm [.sq zqM,.sq znJ]) s:=by
 unfold Z6 at h
 obtain ⟨h2,h3,h9,h10,h13,h14,h17,h184⟩:=hs
 refine .nsq (zn h184 h (fun h=>?_) (fun h=>?_))
 · refine .seq (rg (g0 (jb false) fun h2=>gq (.nsq (.ret ?_))))
   obtain rfl:=oi h
   exact rrA (zo h2) rfl
 refine .skip ?_
 exact zgP H r3 r6 r8 r10 _ ⟨h2,h3,h9,h10,h13,h14,h17⟩ h
def yl (F:Nat) (r3:(GR×LI)) (r6:(Int×Bool)) (r8:(Int×Bool)) (r10:(LI×Bool)) (r13:(GR×Int)) (r14:(Bool×Bool))  (x18:Bool):Option Bool:=
 bif x18 then
  some false
 else
  bif r14.2 then
   (wQ F r13.1).bind fun r25=>
   (wA F r13.1 r13.2).bind fun r26=>
   bif (r14.1 != (decide (r13.2≥r25.1))) then
    Z6 F r3 r6 r8 r10 true
   else
    bif r14.1 then
     Z6 F r3 r6 r8 r10 (!r26.1)
    else
     Z6 F r3 r6 r8 r10 false
  else
   uS F r3 r6 r8 r10
theorem vL (H:H3 D σ F) (r3:(GR×LI)) (r6:(Int×Bool)) (r8:(Int×Bool)) (r10:(LI×Bool)) (r13:(GR×Int)) (r14:(Bool×Bool))  (x18:Bool) (s:Nat→V) (hs:zr [(2,jb false),(3,bG 3 r3.1),(9,ji r6.1),(10,jb r6.2),(13,ji r8.1),(14,jb r8.2),(17,eL r10.1),(21,bG 21 r13.1),(22,ji r13.2),(23,jb r14.1),(24,jb r14.2),(160,jb x18)] s) (h:yl F r3 r6 r8 r10 r13 r14  x18=some r):Run D σ (R3 r) (.nrm [.sq ztK,.sq zmZ]) s:=by
 unfold yl at h
 obtain ⟨h2,h3,h9,h10,h13,h14,h17,h21,h22,h23,h24,h160⟩:=hs
 refine .nsq (zn h160 h (fun h=>?_) (fun h=>?_))
 · refine .seq (rg (g0 (jb false) fun h2=>gq (.nsq (.ret ?_))))
   obtain rfl:=oi h
   exact rrA (zo h2) rfl
 refine .skip (.nsq (.seq (.seq (rg (gm h24 fun h161=>gq (.nsq (zn h161 h (fun h=>?_) (fun h=>?_))))))))
 · refine .seq (rg (g1 21 (gV r13.1) h21 fun h163=>?_))
   obtain ⟨r25,Er25,h⟩:=zb h
   refine gcF [Enc.enc (r13.1:GR)] (zf h163 rfl (Enc.erase_enc (r13.1:GR)) zA) (H.c10 _ _ Er25) H.g10 (gm (rf (.tup [ji r25.1,jb r25.2])) fun h162=>g1 162 (ji r25.1) h162 fun h165=>g1 162 (jb r25.2) h162 fun h166=>gm h165 fun h27=>gm h166 fun h28=>gq (.nsq (.seq (rg (g1 21 (gV r13.1) h21 fun h168=>gm h22 fun h169=>?_)))))
   obtain ⟨r26,Er26,h⟩:=zb h
   refine gcF [Enc.enc (r13.1:GR),Enc.enc (r13.2:Int)] (zf h168 rfl (Enc.erase_enc (r13.1:GR)) (zf h169 rfl rfl zA)) (H.c19 _ _ _ Er26) H.g19 (gm (rf (.tup [jb r26.1,jb r26.2])) fun h167=>g1 167 (jb r26.1) h167 fun h171=>g1 167 (jb r26.2) h167 fun h172=>gm h171 fun h29=>gm h172 fun h30=>gz [(2,_),(3,_),(9,_),(10,_),(13,_),(14,_),(17,_),(22,_),(23,_),(27,_),(29,_)] ⟨h2,h3,h9,h10,h13,h14,h17,h22,h23,h27,h29⟩ ?_)
   rintro s ⟨h2,h3,h9,h10,h13,h14,h17,h22,h23,h27,h29⟩
   refine .nsq (.seq (rg (gm h23 fun h173=>gm h22 fun h174=>gm h27 fun h175=>g2 174 175 (jb (decide (r13.2≥r25.1))) h174 h175 fun h176=>g2 173 176 (jb (r14.1 != (decide (r13.2≥r25.1)))) h173 h176 fun h177=>gm h177 fun h178=>z4 h (fun hg6 h=>?_) (fun hg6 h=>?_))))
   · iterate 2 refine zR (ct h178 hg6) ?_
     iterate 2 refine YF rfl ?_
     refine zR (ct h178 hg6) (g2 178 183 (jb true) (ct h178 hg6) (rf (.tup [])) fun h184=>gq ?_)
     exact zcn H r3 r6 r8 r10 true _ ⟨h2,h3,h9,h10,h13,h14,h17,h184⟩ h
   refine zm (ct h178 hg6) (gm h23 fun h179=>zm (ct h178 hg6) (gm h179 fun h180=>z4 h (fun hg8 h=>?_) (fun hg8 h=>?_)))
   · refine zm (ct h180 hg8) (gm h29 fun h181=>zm (ct h180 hg8) (g1 181 (jb (!r26.1)) h181 fun h182=>zm (ct h178 hg6) (g2 180 182 (jb (!r26.1)) (ct h180 hg8) h182 fun h183=>g2 178 183 (jb (!r26.1)) (ct h178 hg6) h183 fun h184=>gq ?_)))
     exact zcn H r3 r6 r8 r10 (!r26.1) _ ⟨h2,h3,h9,h10,h13,h14,h17,h184⟩ h
   iterate 2 refine zR (ct h180 hg8) ?_
   refine zm (ct h178 hg6) (g2 180 182 (jb false) (ct h180 hg8) (rf (.tup [])) fun h183=>g2 178 183 (jb false) (ct h178 hg6) h183 fun h184=>gq ?_)
   exact zcn H r3 r6 r8 r10 false _ ⟨h2,h3,h9,h10,h13,h14,h17,h184⟩ h
 refine .skip ?_
 exact zgP H r3 r6 r8 r10 _ ⟨h2,h3,h9,h10,h13,h14,h17⟩ h
def uZ (F:Nat) (x1:LB):Option Bool:=
 (L7 F x1).bind fun r2=>
 bif r2 then
  some true
 else
  (vE F x1).bind fun r3=>
  (YN F r3.1 r3.2).bind fun r4=>
  (YJ F r3.1 r3.2).bind fun r5=>
  (wL F r3.1 r3.2).bind fun r6=>
  (um F r3.1 r3.2).bind fun r7=>
  (wQ F r3.1).bind fun r8=>
  (ut F r3.1).bind fun r9=>
  (Zm F r3.1).bind fun r10=>
  (Zj F r3.1).bind fun r11=>
  (J0 F x1 1).bind fun r12=>
  (wG F r12).bind fun r13=>
  (Zg F r13.1 r13.2).bind fun r14=>
  (Ze F r13.1 r13.2).bind fun r15=>
  bif (r4.1 != r5.1) then
   yl F r3 r6 r8 r10 r13 r14 true
  else
   bif (r4.2 != r5.2) then
    yl F r3 r6 r8 r10 r13 r14 true
   else
    bif (r6.1 != r7.1) then
     yl F r3 r6 r8 r10 r13 r14 true
    else
     bif (r6.2 != r7.2) then
      yl F r3 r6 r8 r10 r13 r14 true
     else
      bif r4.2 then
       bif (r6.2 != r4.1) then
        yl F r3 r6 r8 r10 r13 r14 true
       else
        bif (r8.1 != r9.1) then
         yl F r3 r6 r8 r10 r13 r14 true
        else
         bif (r8.2 != r9.2) then
          yl F r3 r6 r8 r10 r13 r14 true
         else
          bif (r10.2 != r11.2) then
           yl F r3 r6 r8 r10 r13 r14 true
          else
           (Wl F r10.1 r11.1).bind fun r28=>
           bif (!r28) then
            yl F r3 r6 r8 r10 r13 r14 true
           else
            bif (r14.1 != r15.1) then
             yl F r3 r6 r8 r10 r13 r14 true
            else
             yl F r3 r6 r8 r10 r13 r14 (r14.2 != r15.2)
      else
       bif (r6.2 != false) then
        yl F r3 r6 r8 r10 r13 r14 true
       else
        bif (r8.1 != r9.1) then
         yl F r3 r6 r8 r10 r13 r14 true
        else
         bif (r8.2 != r9.2) then
          yl F r3 r6 r8 r10 r13 r14 true
         else
          bif (r10.2 != r11.2) then
           yl F r3 r6 r8 r10 r13 r14 true
          else
           (Wl F r10.1 r11.1).bind fun r29=>
           bif (!r29) then
            yl F r3 r6 r8 r10 r13 r14 true
           else
            bif (r14.1 != r15.1) then
             yl F r3 r6 r8 r10 r13 r14 true
            else
             yl F r3 r6 r8 r10 r13 r14 (r14.2 != r15.2)
theorem t3 (H:H3 D σ F) (x1:LB) (s:Nat→V) (hs:zr [(0,eB x1)] s) (h:uZ F x1=some r):Run D σ (R3 r) (.run A3 []) s:=by
 unfold uZ at h
 have h0:=hs
 refine .seq (rg (g0 (jb false) fun h2=>gq (.nsq (.seq (.seq (rg (gm h0 fun h35=>?_)))))))
 obtain ⟨r2,Er2,h⟩:=zb h
 refine gcF [Enc.enc (x1:LB)] (zf h35 rfl (Enc.erase_enc (x1:LB)) zA) (H.c4 _ _ Er2) H.g4 (gq (.nsq (zn rfl h (fun h=>?_) (fun h=>?_))))
 · refine .seq (rg (g0 (jb true) fun h2=>gq (.nsq (.ret ?_))))
   obtain rfl:=oi h
   exact rrA (zo h2) rfl
 refine .skip (.nsq (.seq (zw (z3 ?_))))
 refine ez [(0,_),(2,_),(3,_)] ⟨za h0 rfl me,za h2 rfl mb,ze rfl⟩ ?_
 rintro s ⟨h0,h2,h3⟩
 refine gm h0 fun h38=>?_
 obtain ⟨r3,Er3,h⟩:=zb h
 refine ZI (m:=0) (al:=true) (r:=.tup [Enc.enc (r3.1:GR),eL r3.2]) [Enc.enc (x1:LB)] (zf h38 rfl (Enc.erase_enc (x1:LB)) zA) (H.c5 _ _ Er3) H.g5 (ZP (xQ (v:=eB x1) h38 rfl rfl Z2)) rfl rfl rfl (gm (rf (.tup [gV r3.1,eL r3.2])) fun h37=>g1 37 (gV r3.1) h37 fun h40=>g1 37 (eL r3.2) h37 fun h41=>xA h3 (ye (gV r3.1) (zF rfl rfl) (zF h40 rfl) (xN (by first | rfl | simp [V.toks,V.tokss,Enc.toks_enc,yd])) (gm (zd h41 uE) fun h4=>gz [(0,eB x1),(2,jb false),(3,bG 3 r3.1),(4,_)] ⟨zd h0 uE,zd h2 rfl,zd rfl rfl,h4⟩ ?_)))
 rintro s ⟨h0,h2,h3,h4⟩
 refine .nsq (.seq (rg (g1 3 (gV r3.1) h3 fun h43=>gm h4 fun h44=>?_)))
 obtain ⟨r4,Er4,h⟩:=zb h
 refine gcF [Enc.enc (r3.1:GR),eL r3.2] (zf h43 rfl (Enc.erase_enc (r3.1:GR)) (zf h44 rfl (Enc.erase_enc (r3.2:LI)) zA)) (H.c6 _ _ _ Er4) H.g6 (gm (rf (.tup [jb r4.1,jb r4.2])) fun h42=>g1 42 (jb r4.1) h42 fun h46=>g1 42 (jb r4.2) h42 fun h47=>gm h46 fun h5=>gm h47 fun h6=>gq (.nsq (.seq (rg (g1 3 (gV r3.1) h3 fun h49=>gm h4 fun h50=>?_)))))
 obtain ⟨r5,Er5,h⟩:=zb h
 refine gcF [Enc.enc (r3.1:GR),eL r3.2] (zf h49 rfl (Enc.erase_enc (r3.1:GR)) (zf h50 rfl (Enc.erase_enc (r3.2:LI)) zA)) (H.c7 _ _ _ Er5) H.g7 (gm (rf (.tup [jb r5.1,jb r5.2])) fun h48=>g1 48 (jb r5.1) h48 fun h52=>g1 48 (jb r5.2) h48 fun h53=>gm h52 fun h7=>gm h53 fun h8=>gq (.nsq (.seq (rg (g1 3 (gV r3.1) h3 fun h55=>gm h4 fun h56=>?_)))))
 obtain ⟨r6,Er6,h⟩:=zb h
 refine gcF [Enc.enc (r3.1:GR),eL r3.2] (zf h55 rfl (Enc.erase_enc (r3.1:GR)) (zf h56 rfl (Enc.erase_enc (r3.2:LI)) zA)) (H.c8 _ _ _ Er6) H.g8 (gm (rf (.tup [ji r6.1,jb r6.2])) fun h54=>g1 54 (ji r6.1) h54 fun h58=>g1 54 (jb r6.2) h54 fun h59=>gm h58 fun h9=>gm h59 fun h10=>gq (.nsq (.seq (rg (g1 3 (gV r3.1) h3 fun h61=>gm h4 fun h62=>?_)))))
 obtain ⟨r7,Er7,h⟩:=zb h
 refine gcF [Enc.enc (r3.1:GR),eL r3.2] (zf h61 rfl (Enc.erase_enc (r3.1:GR)) (zf h62 rfl (Enc.erase_enc (r3.2:LI)) zA)) (H.c9 _ _ _ Er7) H.g9 (gm (rf (.tup [ji r7.1,jb r7.2])) fun h60=>g1 60 (ji r7.1) h60 fun h64=>g1 60 (jb r7.2) h60 fun h65=>gm h64 fun h11=>gm h65 fun h12=>gz [(0,_),(2,_),(3,_),(5,_),(6,_),(7,_),(8,_),(9,_),(10,_),(11,_),(12,_)] ⟨h0,h2,h3,h5,h6,h7,h8,h9,h10,h11,h12⟩ ?_)
 rintro s ⟨h0,h2,h3,h5,h6,h7,h8,h9,h10,h11,h12⟩
 refine .nsq (.seq (rg (g1 3 (gV r3.1) h3 fun h67=>?_)))
 obtain ⟨r8,Er8,h⟩:=zb h
 refine gcF [Enc.enc (r3.1:GR)] (zf h67 rfl (Enc.erase_enc (r3.1:GR)) zA) (H.c10 _ _ Er8) H.g10 (gm (rf (.tup [ji r8.1,jb r8.2])) fun h66=>g1 66 (ji r8.1) h66 fun h69=>g1 66 (jb r8.2) h66 fun h70=>gm h69 fun h13=>gm h70 fun h14=>gq (.nsq (.seq (rg (g1 3 (gV r3.1) h3 fun h72=>?_)))))
 obtain ⟨r9,Er9,h⟩:=zb h
 refine gcF [Enc.enc (r3.1:GR)] (zf h72 rfl (Enc.erase_enc (r3.1:GR)) zA) (H.c11 _ _ Er9) H.g11 (gm (rf (.tup [ji r9.1,jb r9.2])) fun h71=>g1 71 (ji r9.1) h71 fun h74=>g1 71 (jb r9.2) h71 fun h75=>gm h74 fun h15=>gm h75 fun h16=>gq (.nsq (.seq (rg (g1 3 (gV r3.1) h3 fun h77=>?_)))))
 obtain ⟨r10,Er10,h⟩:=zb h
 refine ZI (m:=0) (al:=true) (r:=.tup [eL r10.1,Enc.enc (r10.2:Bool)]) [Enc.enc (r3.1:GR)] (zf h77 rfl (Enc.erase_enc (r3.1:GR)) zA) (H.c12 _ _ Er10) H.g12 (ZP (xQ (v:=gV r3.1) h77 rfl rfl Z2)) rfl rfl rfl (gm (rf (.tup [eL r10.1,jb r10.2])) fun h76=>g1 76 (eL r10.1) h76 fun h79=>g1 76 (jb r10.2) h76 fun h80=>gm h79 fun h17=>gm h80 fun h18=>gq (.nsq (.seq (rg (g1 3 (gV r3.1) h3 fun h82=>?_)))))
 obtain ⟨r11,Er11,h⟩:=zb h
 refine ZI (m:=0) (al:=true) (r:=.tup [eL r11.1,Enc.enc (r11.2:Bool)]) [Enc.enc (r3.1:GR)] (zf h82 rfl (Enc.erase_enc (r3.1:GR)) zA) (H.c13 _ _ Er11) H.g13 (ZP (xQ (v:=gV r3.1) h82 rfl rfl Z2)) rfl rfl rfl (gm (rf (.tup [eL r11.1,jb r11.2])) fun h81=>g1 81 (eL r11.1) h81 fun h84=>g1 81 (jb r11.2) h81 fun h85=>gm h84 fun h19=>gm h85 fun h20=>gq (.nsq (.seq (zw (z3 ?_)))))
 refine ez [(0,_),(2,_),(3,_),(5,_),(6,_),(7,_),(8,_),(9,_),(10,_),(11,_),(12,_),(13,_),(14,_),(15,_),(16,_),(17,_),(18,_),(19,_),(20,_),(21,_)] ⟨za h0 rfl me,za h2 rfl mb,za h3 rfl (zj rfl mIE),za h5 rfl mb,za h6 rfl mb,za h7 rfl mb,za h8 rfl mb,za h9 rfl mi,za h10 rfl mb,za h11 rfl mi,za h12 rfl mb,za h13 rfl mi,za h14 rfl mb,za h15 rfl mi,za h16 rfl mb,za h17 rfl me,za h18 rfl mb,za h19 rfl me,za h20 rfl mb,ze rfl⟩ ?_
 rintro s ⟨h0,h2,h3,h5,h6,h7,h8,h9,h10,h11,h12,h13,h14,h15,h16,h17,h18,h19,h20,h21⟩
 refine gm h0 fun h87=>?_
 obtain ⟨r12,Er12,h⟩:=zb h
 refine gcF [Enc.enc (x1:LB),Enc.enc (1:Int)] (zf h87 rfl (Enc.erase_enc (x1:LB)) (zf (v:=ji 1) rfl rfl rfl zA)) (H.c15 _ _ _ Er12) H.g15 ?_
 obtain ⟨r13,Er13,h⟩:=zb h
 refine ZI (m:=0) (al:=true) (r:=.tup [Enc.enc (r13.1:GR),Enc.enc (r13.2:Int)]) [Enc.enc (r12:LB)] (zf (v:=eB r12) rfl rfl (Enc.erase_enc (r12:LB)) zA) (H.c14 _ _ Er13) H.g14 (ZP (xQ (v:=eB r12) rfl rfl rfl Z2)) rfl rfl rfl (gm (rf (.tup [gV r13.1,ji r13.2])) fun h86=>g1 86 (gV r13.1) h86 fun h90=>g1 86 (ji r13.2) h86 fun h91=>xA h21 (ye (gV r13.1) (zF rfl rfl) (zF h90 rfl) (xN (by first | rfl | simp [V.toks,V.tokss,Enc.toks_enc,yd])) (gm (zd h91 rfl) fun h22=>?_)))
 refine gz [(2,jb false),(3,bG 3 r3.1),(5,jb r4.1),(6,jb r4.2),(7,jb r5.1),(8,jb r5.2),(9,ji r6.1),(10,jb r6.2),(11,ji r7.1),(12,jb r7.2),(13,ji r8.1),(14,jb r8.2),(15,ji r9.1),(16,jb r9.2),(17,eL r10.1),(18,jb r10.2),(19,eL r11.1),(20,jb r11.2),(21,bG 21 r13.1),(22,_)] ⟨zd h2 rfl,zd h3 (zH rfl rfl uIE),zd h5 rfl,zd h6 rfl,zd h7 rfl,zd h8 rfl,zd h9 rfl,zd h10 rfl,zd h11 rfl,zd h12 rfl,zd h13 rfl,zd h14 rfl,zd h15 rfl,zd h16 rfl,zd h17 uE,zd h18 rfl,zd h19 uE,zd h20 rfl,zd rfl rfl,h22⟩ ?_
 rintro s ⟨h2,h3,h5,h6,h7,h8,h9,h10,h11,h12,h13,h14,h15,h16,h17,h18,h19,h20,h21,h22⟩
 refine .nsq (.seq (rg (g1 21 (gV r13.1) h21 fun h93=>gm h22 fun h94=>?_)))
 obtain ⟨r14,Er14,h⟩:=zb h
 refine gcF [Enc.enc (r13.1:GR),Enc.enc (r13.2:Int)] (zf h93 rfl (Enc.erase_enc (r13.1:GR)) (zf h94 rfl rfl zA)) (H.c16 _ _ _ Er14) H.g16 (gm (rf (.tup [jb r14.1,jb r14.2])) fun h92=>g1 92 (jb r14.1) h92 fun h96=>g1 92 (jb r14.2) h92 fun h97=>gm h96 fun h23=>gm h97 fun h24=>gq (.nsq (.seq (rg (g1 21 (gV r13.1) h21 fun h99=>gm h22 fun h100=>?_)))))
 obtain ⟨r15,Er15,h⟩:=zb h
 refine gcF [Enc.enc (r13.1:GR),Enc.enc (r13.2:Int)] (zf h99 rfl (Enc.erase_enc (r13.1:GR)) (zf h100 rfl rfl zA)) (H.c17 _ _ _ Er15) H.g17 (gm (rf (.tup [jb r15.1,jb r15.2])) fun h98=>g1 98 (jb r15.1) h98 fun h102=>g1 98 (jb r15.2) h98 fun h103=>gm h102 fun h25=>gm h103 fun h26=>gq (.nsq (.seq (.seq (rg (gm h5 fun h104=>gm h7 fun h105=>g2 104 105 (jb (r4.1 != r5.1)) h104 h105 fun h106=>gm h106 fun h107=>z4 h (fun hg4 h=>?_) (fun hg4 h=>?_)))))))
 · iterate 3 refine zR (ct h107 hg4) ?_
   refine g2 107 110 (jb true) (ct h107 hg4) (rf (.tup [])) fun h111=>gm h111 fun h112=>zR h112 ?_
   iterate 2 refine zR h112 ?_
   refine g2 112 115 (jb true) h112 (rf (.tup [])) fun h116=>gm h116 fun h117=>zR h117 ?_
   iterate 2 refine zR h117 ?_
   refine g2 117 120 (jb true) h117 (rf (.tup [])) fun h121=>gm h121 fun h122=>zR h122 ?_
   iterate 2 refine zR h122 ?_
   refine YF rfl ?_
   iterate 2 refine zR h122 ?_
   refine g2 122 128 (jb true) h122 (rf (.tup [])) fun h129=>gm h129 fun h130=>zR h130 ?_
   iterate 2 refine zR h130 ?_
   refine g2 130 133 (jb true) h130 (rf (.tup [])) fun h134=>gm h134 fun h135=>zR h135 ?_
   iterate 2 refine zR h135 ?_
   refine g2 135 138 (jb true) h135 (rf (.tup [])) fun h139=>gm h139 fun h140=>zR h140 ?_
   iterate 2 refine zR h140 ?_
   refine g2 140 143 (jb true) h140 (rf (.tup [])) fun h144=>gm h144 fun h145=>zR h145 ?_
   iterate 3 refine zR h145 ?_
   refine g2 145 149 (jb true) h145 (rf (.tup [])) fun h150=>gm h150 fun h151=>zR h151 ?_
   iterate 2 refine zR h151 ?_
   refine g2 151 154 (jb true) h151 (rf (.tup [])) fun h155=>gm h155 fun h156=>zR h156 ?_
   iterate 2 refine zR h156 ?_
   refine g2 156 159 (jb true) h156 (rf (.tup [])) fun h160=>gz [(2,_),(3,_),(9,_),(10,_),(13,_),(14,_),(17,_),(21,_),(22,_),(23,_),(24,_),(160,_)] ⟨h2,h3,h9,h10,h13,h14,h17,h21,h22,h23,h24,h160⟩ ?_
   rintro s ⟨h2,h3,h9,h10,h13,h14,h17,h21,h22,h23,h24,h160⟩
   exact vL H r3 r6 r8 r10 r13 r14 true _ ⟨h2,h3,h9,h10,h13,h14,h17,h21,h22,h23,h24,h160⟩ h
 refine zm (ct h107 hg4) (gm h6 fun h108=>zm (ct h107 hg4) (gm h8 fun h109=>zm (ct h107 hg4) (g2 108 109 (jb (r4.2 != r5.2)) h108 h109 fun h110=>g2 107 110 (jb (r4.2 != r5.2)) (ct h107 hg4) h110 fun h111=>gm h111 fun h112=>z4 h (fun hg9 h=>?_) (fun hg9 h=>?_))))
 · iterate 3 refine zR (ct h112 hg9) ?_
   refine g2 112 115 (jb true) (ct h112 hg9) (rf (.tup [])) fun h116=>gm h116 fun h117=>zR h117 ?_
   iterate 2 refine zR h117 ?_
   refine g2 117 120 (jb true) h117 (rf (.tup [])) fun h121=>gm h121 fun h122=>zR h122 ?_
   iterate 2 refine zR h122 ?_
   refine YF rfl ?_
   iterate 2 refine zR h122 ?_
   refine g2 122 128 (jb true) h122 (rf (.tup [])) fun h129=>gm h129 fun h130=>zR h130 ?_
   iterate 2 refine zR h130 ?_
   refine g2 130 133 (jb true) h130 (rf (.tup [])) fun h134=>gm h134 fun h135=>zR h135 ?_
   iterate 2 refine zR h135 ?_
   refine g2 135 138 (jb true) h135 (rf (.tup [])) fun h139=>gm h139 fun h140=>zR h140 ?_
   iterate 2 refine zR h140 ?_
   refine g2 140 143 (jb true) h140 (rf (.tup [])) fun h144=>gm h144 fun h145=>zR h145 ?_
   iterate 3 refine zR h145 ?_
   refine g2 145 149 (jb true) h145 (rf (.tup [])) fun h150=>gm h150 fun h151=>zR h151 ?_
   iterate 2 refine zR h151 ?_
   refine g2 151 154 (jb true) h151 (rf (.tup [])) fun h155=>gm h155 fun h156=>zR h156 ?_
   iterate 2 refine zR h156 ?_
   refine g2 156 159 (jb true) h156 (rf (.tup [])) fun h160=>gz [(2,_),(3,_),(9,_),(10,_),(13,_),(14,_),(17,_),(21,_),(22,_),(23,_),(24,_),(160,_)] ⟨h2,h3,h9,h10,h13,h14,h17,h21,h22,h23,h24,h160⟩ ?_
   rintro s ⟨h2,h3,h9,h10,h13,h14,h17,h21,h22,h23,h24,h160⟩
   exact vL H r3 r6 r8 r10 r13 r14 true _ ⟨h2,h3,h9,h10,h13,h14,h17,h21,h22,h23,h24,h160⟩ h
 refine zm (ct h112 hg9) (gm h9 fun h113=>zm (ct h112 hg9) (gm h11 fun h114=>zm (ct h112 hg9) (g2 113 114 (jb (r6.1 != r7.1)) h113 h114 fun h115=>g2 112 115 (jb (r6.1 != r7.1)) (ct h112 hg9) h115 fun h116=>gm h116 fun h117=>z4 h (fun hg14 h=>?_) (fun hg14 h=>?_))))
 · iterate 3 refine zR (ct h117 hg14) ?_
   refine g2 117 120 (jb true) (ct h117 hg14) (rf (.tup [])) fun h121=>gm h121 fun h122=>zR h122 ?_
   iterate 2 refine zR h122 ?_
   refine YF rfl ?_
   iterate 2 refine zR h122 ?_
   refine g2 122 128 (jb true) h122 (rf (.tup [])) fun h129=>gm h129 fun h130=>zR h130 ?_
   iterate 2 refine zR h130 ?_
   refine g2 130 133 (jb true) h130 (rf (.tup [])) fun h134=>gm h134 fun h135=>zR h135 ?_
   iterate 2 refine zR h135 ?_
   refine g2 135 138 (jb true) h135 (rf (.tup [])) fun h139=>gm h139 fun h140=>zR h140 ?_
   iterate 2 refine zR h140 ?_
   refine g2 140 143 (jb true) h140 (rf (.tup [])) fun h144=>gm h144 fun h145=>zR h145 ?_
   iterate 3 refine zR h145 ?_
   refine g2 145 149 (jb true) h145 (rf (.tup [])) fun h150=>gm h150 fun h151=>zR h151 ?_
   iterate 2 refine zR h151 ?_
   refine g2 151 154 (jb true) h151 (rf (.tup [])) fun h155=>gm h155 fun h156=>zR h156 ?_
   iterate 2 refine zR h156 ?_
   refine g2 156 159 (jb true) h156 (rf (.tup [])) fun h160=>gz [(2,_),(3,_),(9,_),(10,_),(13,_),(14,_),(17,_),(21,_),(22,_),(23,_),(24,_),(160,_)] ⟨h2,h3,h9,h10,h13,h14,h17,h21,h22,h23,h24,h160⟩ ?_
   rintro s ⟨h2,h3,h9,h10,h13,h14,h17,h21,h22,h23,h24,h160⟩
   exact vL H r3 r6 r8 r10 r13 r14 true _ ⟨h2,h3,h9,h10,h13,h14,h17,h21,h22,h23,h24,h160⟩ h
 refine zm (ct h117 hg14) (gm h10 fun h118=>zm (ct h117 hg14) (gm h12 fun h119=>zm (ct h117 hg14) (g2 118 119 (jb (r6.2 != r7.2)) h118 h119 fun h120=>g2 117 120 (jb (r6.2 != r7.2)) (ct h117 hg14) h120 fun h121=>gm h121 fun h122=>z4 h (fun hg19 h=>?_) (fun hg19 h=>?_))))
 · iterate 3 refine zR (ct h122 hg19) ?_
   refine YF rfl ?_
   iterate 2 refine zR (ct h122 hg19) ?_
   refine g2 122 128 (jb true) (ct h122 hg19) (rf (.tup [])) fun h129=>gm h129 fun h130=>zR h130 ?_
   iterate 2 refine zR h130 ?_
   refine g2 130 133 (jb true) h130 (rf (.tup [])) fun h134=>gm h134 fun h135=>zR h135 ?_
   iterate 2 refine zR h135 ?_
   refine g2 135 138 (jb true) h135 (rf (.tup [])) fun h139=>gm h139 fun h140=>zR h140 ?_
   iterate 2 refine zR h140 ?_
   refine g2 140 143 (jb true) h140 (rf (.tup [])) fun h144=>gm h144 fun h145=>zR h145 ?_
   iterate 3 refine zR h145 ?_
   refine g2 145 149 (jb true) h145 (rf (.tup [])) fun h150=>gm h150 fun h151=>zR h151 ?_
   iterate 2 refine zR h151 ?_
   refine g2 151 154 (jb true) h151 (rf (.tup [])) fun h155=>gm h155 fun h156=>zR h156 ?_
   iterate 2 refine zR h156 ?_
   refine g2 156 159 (jb true) h156 (rf (.tup [])) fun h160=>gz [(2,_),(3,_),(9,_),(10,_),(13,_),(14,_),(17,_),(21,_),(22,_),(23,_),(24,_),(160,_)] ⟨h2,h3,h9,h10,h13,h14,h17,h21,h22,h23,h24,h160⟩ ?_
   rintro s ⟨h2,h3,h9,h10,h13,h14,h17,h21,h22,h23,h24,h160⟩
   exact vL H r3 r6 r8 r10 r13 r14 true _ ⟨h2,h3,h9,h10,h13,h14,h17,h21,h22,h23,h24,h160⟩ h
 refine zm (ct h122 hg19) (gm h10 fun h123=>zm (ct h122 hg19) (gm h6 fun h124=>zm (ct h122 hg19) (gm h124 fun h125=>z4 h (fun hg22 h=>?_) (fun hg22 h=>?_))))
 · refine zm (ct h125 hg22) (gm h5 fun h126=>zm (ct h122 hg19) (g2 125 126 (jb r4.1) (ct h125 hg22) h126 fun h127=>zm (ct h122 hg19) (g2 123 127 (jb (r6.2 != r4.1)) h123 h127 fun h128=>g2 122 128 (jb (r6.2 != r4.1)) (ct h122 hg19) h128 fun h129=>gm h129 fun h130=>z4 h (fun hg27 h=>?_) (fun hg27 h=>?_))))
   · iterate 3 refine zR (ct h130 hg27) ?_
     refine g2 130 133 (jb true) (ct h130 hg27) (rf (.tup [])) fun h134=>gm h134 fun h135=>zR h135 ?_
     iterate 2 refine zR h135 ?_
     refine g2 135 138 (jb true) h135 (rf (.tup [])) fun h139=>gm h139 fun h140=>zR h140 ?_
     iterate 2 refine zR h140 ?_
     refine g2 140 143 (jb true) h140 (rf (.tup [])) fun h144=>gm h144 fun h145=>zR h145 ?_
     iterate 3 refine zR h145 ?_
     refine g2 145 149 (jb true) h145 (rf (.tup [])) fun h150=>gm h150 fun h151=>zR h151 ?_
     iterate 2 refine zR h151 ?_
     refine g2 151 154 (jb true) h151 (rf (.tup [])) fun h155=>gm h155 fun h156=>zR h156 ?_
     iterate 2 refine zR h156 ?_
     refine g2 156 159 (jb true) h156 (rf (.tup [])) fun h160=>gz [(2,_),(3,_),(9,_),(10,_),(13,_),(14,_),(17,_),(21,_),(22,_),(23,_),(24,_),(160,_)] ⟨h2,h3,h9,h10,h13,h14,h17,h21,h22,h23,h24,h160⟩ ?_
     rintro s ⟨h2,h3,h9,h10,h13,h14,h17,h21,h22,h23,h24,h160⟩
     exact vL H r3 r6 r8 r10 r13 r14 true _ ⟨h2,h3,h9,h10,h13,h14,h17,h21,h22,h23,h24,h160⟩ h
   refine zm (ct h130 hg27) (gm h13 fun h131=>zm (ct h130 hg27) (gm h15 fun h132=>zm (ct h130 hg27) (g2 131 132 (jb (r8.1 != r9.1)) h131 h132 fun h133=>g2 130 133 (jb (r8.1 != r9.1)) (ct h130 hg27) h133 fun h134=>gm h134 fun h135=>z4 h (fun hg32 h=>?_) (fun hg32 h=>?_))))
   · iterate 3 refine zR (ct h135 hg32) ?_
     refine g2 135 138 (jb true) (ct h135 hg32) (rf (.tup [])) fun h139=>gm h139 fun h140=>zR h140 ?_
     iterate 2 refine zR h140 ?_
     refine g2 140 143 (jb true) h140 (rf (.tup [])) fun h144=>gm h144 fun h145=>zR h145 ?_
     iterate 3 refine zR h145 ?_
     refine g2 145 149 (jb true) h145 (rf (.tup [])) fun h150=>gm h150 fun h151=>zR h151 ?_
     iterate 2 refine zR h151 ?_
     refine g2 151 154 (jb true) h151 (rf (.tup [])) fun h155=>gm h155 fun h156=>zR h156 ?_
     iterate 2 refine zR h156 ?_
     refine g2 156 159 (jb true) h156 (rf (.tup [])) fun h160=>gz [(2,_),(3,_),(9,_),(10,_),(13,_),(14,_),(17,_),(21,_),(22,_),(23,_),(24,_),(160,_)] ⟨h2,h3,h9,h10,h13,h14,h17,h21,h22,h23,h24,h160⟩ ?_
     rintro s ⟨h2,h3,h9,h10,h13,h14,h17,h21,h22,h23,h24,h160⟩
     exact vL H r3 r6 r8 r10 r13 r14 true _ ⟨h2,h3,h9,h10,h13,h14,h17,h21,h22,h23,h24,h160⟩ h
   refine zm (ct h135 hg32) (gm h14 fun h136=>zm (ct h135 hg32) (gm h16 fun h137=>zm (ct h135 hg32) (g2 136 137 (jb (r8.2 != r9.2)) h136 h137 fun h138=>g2 135 138 (jb (r8.2 != r9.2)) (ct h135 hg32) h138 fun h139=>gm h139 fun h140=>z4 h (fun hg37 h=>?_) (fun hg37 h=>?_))))
   · iterate 3 refine zR (ct h140 hg37) ?_
     refine g2 140 143 (jb true) (ct h140 hg37) (rf (.tup [])) fun h144=>gm h144 fun h145=>zR h145 ?_
     iterate 3 refine zR h145 ?_
     refine g2 145 149 (jb true) h145 (rf (.tup [])) fun h150=>gm h150 fun h151=>zR h151 ?_
     iterate 2 refine zR h151 ?_
     refine g2 151 154 (jb true) h151 (rf (.tup [])) fun h155=>gm h155 fun h156=>zR h156 ?_
     iterate 2 refine zR h156 ?_
     refine g2 156 159 (jb true) h156 (rf (.tup [])) fun h160=>gz [(2,_),(3,_),(9,_),(10,_),(13,_),(14,_),(17,_),(21,_),(22,_),(23,_),(24,_),(160,_)] ⟨h2,h3,h9,h10,h13,h14,h17,h21,h22,h23,h24,h160⟩ ?_
     rintro s ⟨h2,h3,h9,h10,h13,h14,h17,h21,h22,h23,h24,h160⟩
     exact vL H r3 r6 r8 r10 r13 r14 true _ ⟨h2,h3,h9,h10,h13,h14,h17,h21,h22,h23,h24,h160⟩ h
   refine zm (ct h140 hg37) (gm h18 fun h141=>zm (ct h140 hg37) (gm h20 fun h142=>zm (ct h140 hg37) (g2 141 142 (jb (r10.2 != r11.2)) h141 h142 fun h143=>g2 140 143 (jb (r10.2 != r11.2)) (ct h140 hg37) h143 fun h144=>gm h144 fun h145=>z4 h (fun hg42 h=>?_) (fun hg42 h=>?_))))
   · iterate 4 refine zR (ct h145 hg42) ?_
     refine g2 145 149 (jb true) (ct h145 hg42) (rf (.tup [])) fun h150=>gm h150 fun h151=>zR h151 ?_
     iterate 2 refine zR h151 ?_
     refine g2 151 154 (jb true) h151 (rf (.tup [])) fun h155=>gm h155 fun h156=>zR h156 ?_
     iterate 2 refine zR h156 ?_
     refine g2 156 159 (jb true) h156 (rf (.tup [])) fun h160=>gz [(2,_),(3,_),(9,_),(10,_),(13,_),(14,_),(17,_),(21,_),(22,_),(23,_),(24,_),(160,_)] ⟨h2,h3,h9,h10,h13,h14,h17,h21,h22,h23,h24,h160⟩ ?_
     rintro s ⟨h2,h3,h9,h10,h13,h14,h17,h21,h22,h23,h24,h160⟩
     exact vL H r3 r6 r8 r10 r13 r14 true _ ⟨h2,h3,h9,h10,h13,h14,h17,h21,h22,h23,h24,h160⟩ h
   refine zm (ct h145 hg42) (gm h17 fun h146=>zm (ct h145 hg42) (gm h19 fun h147=>?_))
   obtain ⟨r28,Er28,h⟩:=zb h
   refine zm (ct h145 hg42) (gcF [eL r10.1,eL r11.1] (zf h146 rfl (Enc.erase_enc (r10.1:LI)) (zf h147 rfl (Enc.erase_enc (r11.1:LI)) zA)) (H.c18 _ _ _ Er28) H.g18 (zm (ct h145 hg42) (g1 148 (jb (!r28)) (rf (jb r28)) fun h149=>g2 145 149 (jb (!r28)) (ct h145 hg42) h149 fun h150=>gm h150 fun h151=>z4 h (fun hg48 h=>?_) (fun hg48 h=>?_))))
   · iterate 3 refine zR (ct h151 hg48) ?_
     refine g2 151 154 (jb true) (ct h151 hg48) (rf (.tup [])) fun h155=>gm h155 fun h156=>zR h156 ?_
     iterate 2 refine zR h156 ?_
     refine g2 156 159 (jb true) h156 (rf (.tup [])) fun h160=>gz [(2,_),(3,_),(9,_),(10,_),(13,_),(14,_),(17,_),(21,_),(22,_),(23,_),(24,_),(160,_)] ⟨h2,h3,h9,h10,h13,h14,h17,h21,h22,h23,h24,h160⟩ ?_
     rintro s ⟨h2,h3,h9,h10,h13,h14,h17,h21,h22,h23,h24,h160⟩
     exact vL H r3 r6 r8 r10 r13 r14 true _ ⟨h2,h3,h9,h10,h13,h14,h17,h21,h22,h23,h24,h160⟩ h
   refine zm (ct h151 hg48) (gm h23 fun h152=>zm (ct h151 hg48) (gm h25 fun h153=>zm (ct h151 hg48) (g2 152 153 (jb (r14.1 != r15.1)) h152 h153 fun h154=>g2 151 154 (jb (r14.1 != r15.1)) (ct h151 hg48) h154 fun h155=>gm h155 fun h156=>z4 h (fun hg53 h=>?_) (fun hg53 h=>?_))))
   · iterate 3 refine zR (ct h156 hg53) ?_
     refine g2 156 159 (jb true) (ct h156 hg53) (rf (.tup [])) fun h160=>gz [(2,_),(3,_),(9,_),(10,_),(13,_),(14,_),(17,_),(21,_),(22,_),(23,_),(24,_),(160,_)] ⟨h2,h3,h9,h10,h13,h14,h17,h21,h22,h23,h24,h160⟩ ?_
     rintro s ⟨h2,h3,h9,h10,h13,h14,h17,h21,h22,h23,h24,h160⟩
     exact vL H r3 r6 r8 r10 r13 r14 true _ ⟨h2,h3,h9,h10,h13,h14,h17,h21,h22,h23,h24,h160⟩ h
   refine zm (ct h156 hg53) (gm h24 fun h157=>zm (ct h156 hg53) (gm h26 fun h158=>zm (ct h156 hg53) (g2 157 158 (jb (r14.2 != r15.2)) h157 h158 fun h159=>g2 156 159 (jb (r14.2 != r15.2)) (ct h156 hg53) h159 fun h160=>gz [(2,_),(3,_),(9,_),(10,_),(13,_),(14,_),(17,_),(21,_),(22,_),(23,_),(24,_),(160,_)] ⟨h2,h3,h9,h10,h13,h14,h17,h21,h22,h23,h24,h160⟩ ?_)))
   rintro s ⟨h2,h3,h9,h10,h13,h14,h17,h21,h22,h23,h24,h160⟩
   exact vL H r3 r6 r8 r10 r13 r14 (r14.2 != r15.2) _ ⟨h2,h3,h9,h10,h13,h14,h17,h21,h22,h23,h24,h160⟩ h
 refine zR (ct h125 hg22) (zm (ct h122 hg19) (g2 125 126 (jb false) (ct h125 hg22) (rf (.tup [])) fun h127=>zm (ct h122 hg19) (g2 123 127 (jb (r6.2 != false)) h123 h127 fun h128=>g2 122 128 (jb (r6.2 != false)) (ct h122 hg19) h128 fun h129=>gm h129 fun h130=>z4 h (fun hg27 h=>?_) (fun hg27 h=>?_))))
 · iterate 3 refine zR (ct h130 hg27) ?_
   refine g2 130 133 (jb true) (ct h130 hg27) (rf (.tup [])) fun h134=>gm h134 fun h135=>zR h135 ?_
   iterate 2 refine zR h135 ?_
   refine g2 135 138 (jb true) h135 (rf (.tup [])) fun h139=>gm h139 fun h140=>zR h140 ?_
   iterate 2 refine zR h140 ?_
   refine g2 140 143 (jb true) h140 (rf (.tup [])) fun h144=>gm h144 fun h145=>zR h145 ?_
   iterate 3 refine zR h145 ?_
   refine g2 145 149 (jb true) h145 (rf (.tup [])) fun h150=>gm h150 fun h151=>zR h151 ?_
   iterate 2 refine zR h151 ?_
   refine g2 151 154 (jb true) h151 (rf (.tup [])) fun h155=>gm h155 fun h156=>zR h156 ?_
   iterate 2 refine zR h156 ?_
   refine g2 156 159 (jb true) h156 (rf (.tup [])) fun h160=>gz [(2,_),(3,_),(9,_),(10,_),(13,_),(14,_),(17,_),(21,_),(22,_),(23,_),(24,_),(160,_)] ⟨h2,h3,h9,h10,h13,h14,h17,h21,h22,h23,h24,h160⟩ ?_
   rintro s ⟨h2,h3,h9,h10,h13,h14,h17,h21,h22,h23,h24,h160⟩
   exact vL H r3 r6 r8 r10 r13 r14 true _ ⟨h2,h3,h9,h10,h13,h14,h17,h21,h22,h23,h24,h160⟩ h
 refine zm (ct h130 hg27) (gm h13 fun h131=>zm (ct h130 hg27) (gm h15 fun h132=>zm (ct h130 hg27) (g2 131 132 (jb (r8.1 != r9.1)) h131 h132 fun h133=>g2 130 133 (jb (r8.1 != r9.1)) (ct h130 hg27) h133 fun h134=>gm h134 fun h135=>z4 h (fun hg32 h=>?_) (fun hg32 h=>?_))))
 · iterate 3 refine zR (ct h135 hg32) ?_
   refine g2 135 138 (jb true) (ct h135 hg32) (rf (.tup [])) fun h139=>gm h139 fun h140=>zR h140 ?_
   iterate 2 refine zR h140 ?_
   refine g2 140 143 (jb true) h140 (rf (.tup [])) fun h144=>gm h144 fun h145=>zR h145 ?_
   iterate 3 refine zR h145 ?_
   refine g2 145 149 (jb true) h145 (rf (.tup [])) fun h150=>gm h150 fun h151=>zR h151 ?_
   iterate 2 refine zR h151 ?_
   refine g2 151 154 (jb true) h151 (rf (.tup [])) fun h155=>gm h155 fun h156=>zR h156 ?_
   iterate 2 refine zR h156 ?_
   refine g2 156 159 (jb true) h156 (rf (.tup [])) fun h160=>gz [(2,_),(3,_),(9,_),(10,_),(13,_),(14,_),(17,_),(21,_),(22,_),(23,_),(24,_),(160,_)] ⟨h2,h3,h9,h10,h13,h14,h17,h21,h22,h23,h24,h160⟩ ?_
   rintro s ⟨h2,h3,h9,h10,h13,h14,h17,h21,h22,h23,h24,h160⟩
   exact vL H r3 r6 r8 r10 r13 r14 true _ ⟨h2,h3,h9,h10,h13,h14,h17,h21,h22,h23,h24,h160⟩ h
 refine zm (ct h135 hg32) (gm h14 fun h136=>zm (ct h135 hg32) (gm h16 fun h137=>zm (ct h135 hg32) (g2 136 137 (jb (r8.2 != r9.2)) h136 h137 fun h138=>g2 135 138 (jb (r8.2 != r9.2)) (ct h135 hg32) h138 fun h139=>gm h139 fun h140=>z4 h (fun hg37 h=>?_) (fun hg37 h=>?_))))
 · iterate 3 refine zR (ct h140 hg37) ?_
   refine g2 140 143 (jb true) (ct h140 hg37) (rf (.tup [])) fun h144=>gm h144 fun h145=>zR h145 ?_
   iterate 3 refine zR h145 ?_
   refine g2 145 149 (jb true) h145 (rf (.tup [])) fun h150=>gm h150 fun h151=>zR h151 ?_
   iterate 2 refine zR h151 ?_
   refine g2 151 154 (jb true) h151 (rf (.tup [])) fun h155=>gm h155 fun h156=>zR h156 ?_
   iterate 2 refine zR h156 ?_
   refine g2 156 159 (jb true) h156 (rf (.tup [])) fun h160=>gz [(2,_),(3,_),(9,_),(10,_),(13,_),(14,_),(17,_),(21,_),(22,_),(23,_),(24,_),(160,_)] ⟨h2,h3,h9,h10,h13,h14,h17,h21,h22,h23,h24,h160⟩ ?_
   rintro s ⟨h2,h3,h9,h10,h13,h14,h17,h21,h22,h23,h24,h160⟩
   exact vL H r3 r6 r8 r10 r13 r14 true _ ⟨h2,h3,h9,h10,h13,h14,h17,h21,h22,h23,h24,h160⟩ h
 refine zm (ct h140 hg37) (gm h18 fun h141=>zm (ct h140 hg37) (gm h20 fun h142=>zm (ct h140 hg37) (g2 141 142 (jb (r10.2 != r11.2)) h141 h142 fun h143=>g2 140 143 (jb (r10.2 != r11.2)) (ct h140 hg37) h143 fun h144=>gm h144 fun h145=>z4 h (fun hg42 h=>?_) (fun hg42 h=>?_))))
 · iterate 4 refine zR (ct h145 hg42) ?_
   refine g2 145 149 (jb true) (ct h145 hg42) (rf (.tup [])) fun h150=>gm h150 fun h151=>zR h151 ?_
   iterate 2 refine zR h151 ?_
   refine g2 151 154 (jb true) h151 (rf (.tup [])) fun h155=>gm h155 fun h156=>zR h156 ?_
   iterate 2 refine zR h156 ?_
   refine g2 156 159 (jb true) h156 (rf (.tup [])) fun h160=>gz [(2,_),(3,_),(9,_),(10,_),(13,_),(14,_),(17,_),(21,_),(22,_),(23,_),(24,_),(160,_)] ⟨h2,h3,h9,h10,h13,h14,h17,h21,h22,h23,h24,h160⟩ ?_
   rintro s ⟨h2,h3,h9,h10,h13,h14,h17,h21,h22,h23,h24,h160⟩
   exact vL H r3 r6 r8 r10 r13 r14 true _ ⟨h2,h3,h9,h10,h13,h14,h17,h21,h22,h23,h24,h160⟩ h
 refine zm (ct h145 hg42) (gm h17 fun h146=>zm (ct h145 hg42) (gm h19 fun h147=>?_))
 obtain ⟨r29,Er29,h⟩:=zb h
 refine zm (ct h145 hg42) (gcF [eL r10.1,eL r11.1] (zf h146 rfl (Enc.erase_enc (r10.1:LI)) (zf h147 rfl (Enc.erase_enc (r11.1:LI)) zA)) (H.c18 _ _ _ Er29) H.g18 (zm (ct h145 hg42) (g1 148 (jb (!r29)) (rf (jb r29)) fun h149=>g2 145 149 (jb (!r29)) (ct h145 hg42) h149 fun h150=>gm h150 fun h151=>z4 h (fun hg48 h=>?_) (fun hg48 h=>?_))))
 · iterate 3 refine zR (ct h151 hg48) ?_
   refine g2 151 154 (jb true) (ct h151 hg48) (rf (.tup [])) fun h155=>gm h155 fun h156=>zR h156 ?_
   iterate 2 refine zR h156 ?_
   refine g2 156 159 (jb true) h156 (rf (.tup [])) fun h160=>gz [(2,_),(3,_),(9,_),(10,_),(13,_),(14,_),(17,_),(21,_),(22,_),(23,_),(24,_),(160,_)] ⟨h2,h3,h9,h10,h13,h14,h17,h21,h22,h23,h24,h160⟩ ?_
   rintro s ⟨h2,h3,h9,h10,h13,h14,h17,h21,h22,h23,h24,h160⟩
   exact vL H r3 r6 r8 r10 r13 r14 true _ ⟨h2,h3,h9,h10,h13,h14,h17,h21,h22,h23,h24,h160⟩ h
 refine zm (ct h151 hg48) (gm h23 fun h152=>zm (ct h151 hg48) (gm h25 fun h153=>zm (ct h151 hg48) (g2 152 153 (jb (r14.1 != r15.1)) h152 h153 fun h154=>g2 151 154 (jb (r14.1 != r15.1)) (ct h151 hg48) h154 fun h155=>gm h155 fun h156=>z4 h (fun hg53 h=>?_) (fun hg53 h=>?_))))
 · iterate 3 refine zR (ct h156 hg53) ?_
   refine g2 156 159 (jb true) (ct h156 hg53) (rf (.tup [])) fun h160=>gz [(2,_),(3,_),(9,_),(10,_),(13,_),(14,_),(17,_),(21,_),(22,_),(23,_),(24,_),(160,_)] ⟨h2,h3,h9,h10,h13,h14,h17,h21,h22,h23,h24,h160⟩ ?_
   rintro s ⟨h2,h3,h9,h10,h13,h14,h17,h21,h22,h23,h24,h160⟩
   exact vL H r3 r6 r8 r10 r13 r14 true _ ⟨h2,h3,h9,h10,h13,h14,h17,h21,h22,h23,h24,h160⟩ h
 refine zm (ct h156 hg53) (gm h24 fun h157=>zm (ct h156 hg53) (gm h26 fun h158=>zm (ct h156 hg53) (g2 157 158 (jb (r14.2 != r15.2)) h157 h158 fun h159=>g2 156 159 (jb (r14.2 != r15.2)) (ct h156 hg53) h159 fun h160=>gz [(2,_),(3,_),(9,_),(10,_),(13,_),(14,_),(17,_),(21,_),(22,_),(23,_),(24,_),(160,_)] ⟨h2,h3,h9,h10,h13,h14,h17,h21,h22,h23,h24,h160⟩ ?_)))
 rintro s ⟨h2,h3,h9,h10,h13,h14,h17,h21,h22,h23,h24,h160⟩
 exact vL H r3 r6 r8 r10 r13 r14 (r14.2 != r15.2) _ ⟨h2,h3,h9,h10,h13,h14,h17,h21,h22,h23,h24,h160⟩ h
end
def e3 (F:Nat):Ent:=ent 3 (fun (x:(LB×Unit))=>uZ F x.1) (fun (r:Bool)=>(Enc.enc (r:Bool))) 0 false []
theorem p3 {F:Nat} {x0:LB} {r:Bool} (h:uZ F x0=some r):(e3 F).den [Enc.enc x0]=some (Enc.enc (r:Bool)):=zU (x0,()) h
theorem o3 (hF:zG Try.prog D σ) (H:H3 D σ F):(e3 F).Ok Try.prog:=okZ (f:=3) Try.func3 fun ⟨x0,_⟩ y hy=>cR hF Try.func3 c3 (t3 H x0 _ rfl hy)
end Go.Zq
