/- General lemmas and walks. No condition but what each theorem names. -/
import Derived.Test.YtbjhccnffacbcaaGreatQ78a60e17
import Derived.Test.YtbjhccnffacbcaaGreatQdd1b1567
import Derived.Test.YtbjhccnffacbcaaGreatQc70aff79
import Derived.Test.YtbjhccnffacbcaaGreatChecked
import Derived.Test.YtbjhccnffacbcaaGreatQdafcbbee
import Derived.Test.YtbjhccnffacbcaaGreatQa576578f
import Derived.Shelf.Strings.Repeat
import Derived.Ground.Names2Prog
import Derived.Test.YtbjhccnffacbcaaGreatProg
set_option maxRecDepth 100000
set_option maxHeartbeats 8000000
open Go.Owl renaming Own→Ke
open Go.Proofs.Tryz renaming prog→Kf
open List renaming map→Kg
open List renaming flatMap→Kh
open List renaming replicate→Ki
open List renaming length_append→Kj
open Nat renaming zero_le→Kk
open UInt32 renaming ofNat→Kl
open UInt16 renaming ofNat→Km
open UInt64 renaming ofNat→Kn
namespace Go.Proofs.YtbjhccnffacbcaaGreat
open Go.Owl
theorem Kd (f:Nat) (h:bg Tryz.prog f=true:=by kernel_rfl):bg Tryz.prog f=true:=h
abbrev A3:=Tryz.underlying3
abbrev A4:=Tryz.underlying4
abbrev A5:=Tryz.underlying5
abbrev A9:=Tryz.underlying9
abbrev A22:=Tryz.underlying22
abbrev A25:=Tryz.underlying25
abbrev A37:=Tryz.underlying37
abbrev A38:=Tryz.underlying38
abbrev A40:=Tryz.underlying40
abbrev A41:=Tryz.underlying41
abbrev A43:=Tryz.underlying43
abbrev A47:=Tryz.underlying47
abbrev A59:=Tryz.underlying59
abbrev A68:=Tryz.underlying68
abbrev A73:=Tryz.underlying73
abbrev A75:=Tryz.underlying75
abbrev A79:=Tryz.underlying79
abbrev A81:=Tryz.underlying81
abbrev A83:=Tryz.underlying83
abbrev A110:=Tryz.underlying110
abbrev A111:=Tryz.underlying111
abbrev A114:=Tryz.underlying114
abbrev A116:=Tryz.underlying116
abbrev A120:=Tryz.underlying120
abbrev A131:=Tryz.underlying131
abbrev A140:=Tryz.underlying140
abbrev A143:=Tryz.underlying143
abbrev A144:=Tryz.underlying144
abbrev A154:=Tryz.underlying154
abbrev A162:=Tryz.underlying162
abbrev A167:=Tryz.underlying167
abbrev A169:=Tryz.underlying169
abbrev A173:=Tryz.underlying173
abbrev A191:=Tryz.underlying191
abbrev A194:=Tryz.underlying194
abbrev A197:=Tryz.underlying197
abbrev A203:=Tryz.underlying203
abbrev A207:=Tryz.underlying207
abbrev A209:=Tryz.underlying209
abbrev A243:=Tryz.underlying243
abbrev A251:=Tryz.underlying251
abbrev A254:=Tryz.underlying254
abbrev A265:=Tryz.underlying265
abbrev A285:=Tryz.underlying285
abbrev A290:=Tryz.underlying290
abbrev A308:=Tryz.underlying308
abbrev A322:=Tryz.underlying322
abbrev A332:=Tryz.underlying332
abbrev A337:=Tryz.underlying337
abbrev A344:=Tryz.underlying344
namespace Fa
theorem I5:tiB Kf 5=some ([(vU8 0)],1,1):=by kernel_rfl
end Fa
end Go.Proofs.YtbjhccnffacbcaaGreat
namespace Go.Proofs.YtbjhccnffacbcaaGreat
open Go.Owl
namespace Fa
theorem ui:faB Kf 325 0=some (0,8,false):=by kernel_rfl
theorem kB:faB Kf 325 1=some (8,1,true):=by kernel_rfl
theorem ug:faB Kf 325 2=some (9,1,true):=by kernel_rfl
theorem CB:tiB Kf 114=some ([(.slice none 0 0)],1,24):=by kernel_rfl
theorem I22:tiB Kf 22=some ([(aa 0)],1,4):=by kernel_rfl
theorem I3:tiB Kf 3=some ([(vN 0)],1,8):=by kernel_rfl
theorem ij:tiB Kf 322=some ([(aa 0),(aa 0),(aa 0),(aa 0),(aa 0),(aa 0),(aa 0),(aa 0)],8,32):=by kernel_rfl
theorem Ic:tiB Kf 325=some ([(aa 0),(aa 0),(aa 0),(aa 0),(aa 0),(aa 0),(aa 0),(aa 0),(.slice none 0 0),(vN 0)],10,64):=by kernel_rfl
theorem mf:tiB Kf 344=some ((Ki 64 (aa 0)),64,256):=by kernel_rfl
theorem I9:tiB Kf 9=some ([(str [])],1,16):=by kernel_rfl
theorem M:Tryz.prog.follows .mixedOrders=true:=by kernel_rfl
theorem Hu:plB Kf 325=some [(0,8),(8,1),(9,1)]:=by kernel_rfl
theorem Ct:Tryz.prog.underlying 290=some (.pointer (Tryz.prog.pointee 290)):=by kernel_rfl
theorem uj:faB Kf 293 0=some (0,1,true):=by kernel_rfl
theorem yF:faB Kf 293 1=some (1,1,true):=by kernel_rfl
theorem If:tiB Kf 293=some ([(.pointer none),(str [])],2,24):=by kernel_rfl
theorem Hx:plB Kf 293=some [(0,1),(1,1)]:=by kernel_rfl
theorem Cu:Tryz.prog.underlying 245=some (.pointer (Tryz.prog.pointee 245)):=by kernel_rfl
theorem xe:Tryz.prog.cellsOf 175=2:=by kernel_rfl
theorem CO5:Tryz.prog.cellsOf 5=1:=by kernel_rfl
theorem qa:faB Kf 175 0=some (0,1,true):=by kernel_rfl
theorem pZ:faB Kf 175 1=some (1,1,true):=by kernel_rfl
theorem Ir:tiB Kf 173=some ([(.pointer none)],1,8):=by kernel_rfl
theorem Cv:Tryz.prog.underlying 173=some (.pointer (Tryz.prog.pointee 173)):=by kernel_rfl
theorem qc:faB Kf 146 0=some (0,1,true):=by kernel_rfl
theorem kC:faB Kf 193 3=some (4,1,true):=by kernel_rfl
theorem I59:tiB Kf 59=some ([(.slice none 0 0)],1,24):=by kernel_rfl
theorem Ht:Tryz.prog.underlying 111=some (.pointer (Tryz.prog.pointee 111)):=by kernel_rfl
theorem gE:Tryz.prog.underlying 47=some (.pointer (Tryz.prog.pointee 47)):=by kernel_rfl
theorem CC:faB Kf 75 0=some (0,1,true):=by kernel_rfl
theorem il:faB Kf 75 1=some (1,1,true):=by kernel_rfl
theorem Io:tiB Kf 196=some ([(aa 0),(.slice none 0 0),(.map none)],3,40):=by kernel_rfl
theorem Ih:tiB Kf 264=some ([(.map none),(.slice none 0 0),(vN 0)],3,40):=by kernel_rfl
theorem I73:tiB Kf 73=some ([(.slice none 0 0)],1,24):=by kernel_rfl
theorem I75:tiB Kf 75=some ([(aa 0),(.slice none 0 0)],2,32):=by kernel_rfl
theorem HE:plB Kf 196=some [(0,2),(2,1)]:=by kernel_rfl
theorem Hz:plB Kf 264=some [(0,1),(1,1),(2,1)]:=by kernel_rfl
theorem It:tiB Kf 146=some ([(.pointer none),(.bool false),(vN 0),(.pointer none),(.bool false),(vN 0),(.pointer none),(.bool false),(vN 0),(.pointer none),(.bool false),(vN 0),(.pointer none),(.bool false),(vN 0),(.pointer none),(.bool false),(vN 0),(.pointer none),(.bool false),(vN 0),(.pointer none),(.bool false),(vN 0),(.pointer none),(.bool false),(vN 0),(.pointer none),(.slice none 0 0)],29,248):=by kernel_rfl
theorem Iq:tiB Kf 191=some ([(.slice none 0 0)],1,24):=by kernel_rfl
theorem Ip:tiB Kf 193=some ([(aa 0),(.slice none 0 0),(.pointer none),(.pointer none),(.slice none 0 0),(aa 0)],6,80):=by kernel_rfl
theorem HH:plB Kf 146=some [(0,1),(1,27),(28,1)]:=by kernel_rfl
theorem HF:plB Kf 193=some [(0,2),(2,1),(3,1),(4,1),(5,1)]:=by kernel_rfl
theorem Ia:plB Kf 75=some [(0,1),(1,1)]:=by kernel_rfl
theorem nT:faB Kf 196 0=some (0,2,false):=by kernel_rfl
theorem gA:faB Kf 196 1=some (2,1,true):=by kernel_rfl
theorem jv:faB Kf 199 0=some (0,4,false):=by kernel_rfl
theorem Gu:faB Kf 199 1=some (4,1,true):=by kernel_rfl
theorem im:faB Kf 40 0=some (0,1,true):=by kernel_rfl
theorem Gk:tiB Kf 199=some ([(aa 0),(.slice none 0 0),(.slice none 0 0),(.bool false),(aa 0),(aa 0)],6,72):=by kernel_rfl
theorem Cy:plB Kf 199=some [(0,4),(4,1),(5,1)]:=by kernel_rfl
theorem jm:Tryz.prog.underlying 110=some (.pointer (Tryz.prog.pointee 110)):=by kernel_rfl
theorem mS:Tryz.prog.underlying 197=some (.pointer (Tryz.prog.pointee 197)):=by kernel_rfl
theorem yA:zvB Kf 197=some (.pointer none):=by kernel_rfl
theorem ey:faB Kf 207 0=some (0,1,true):=by kernel_rfl
theorem fW:faB Kf 207 1=some (1,1,true):=by kernel_rfl
theorem da:faB Kf 40 1=some (1,1,true):=by kernel_rfl
theorem di:faB Kf 40 2=some (2,1,true):=by kernel_rfl
theorem fV:tiB Kf 203=some ([(bA 0)],1,2):=by kernel_rfl
theorem cR:tiB Kf 207=some ([(aa 0),(aa 0)],2,8):=by kernel_rfl
theorem ph:plB Kf 207=some [(0,1),(1,1)]:=by kernel_rfl
theorem Gl:tiB Kf 197=some ([(.pointer none)],1,8):=by kernel_rfl
theorem I40:tiB Kf 40=some ([(aa 0),(.slice none 0 0),(.slice none 0 0),(.bool false)],4,64):=by kernel_rfl
theorem vY:tiB Kf 308=some ([.nilFunc],1,8):=by kernel_rfl
theorem I37:tiB Kf 37=some ([(.slice none 0 0)],1,24):=by kernel_rfl
theorem I38:tiB Kf 38=some ([(.slice none 0 0)],1,24):=by kernel_rfl
theorem yG:faB Kf 199 2=some (5,1,true):=by kernel_rfl
theorem yE:faB Kf 296 0=some (0,1,true):=by kernel_rfl
theorem nR:faB Kf 296 1=some (1,1,true):=by kernel_rfl
theorem yD:faB Kf 296 2=some (2,1,true):=by kernel_rfl
theorem ju:faB Kf 298 0=some (0,3,false):=by kernel_rfl
theorem I25:tiB Kf 25=some ([(vN 0)],1,8):=by kernel_rfl
theorem Ie:tiB Kf 296=some ([(str []),(vN 0),(vN 0)],3,32):=by kernel_rfl
theorem Id:tiB Kf 298=some ([(str []),(vN 0),(vN 0)],3,32):=by kernel_rfl
theorem Hw:plB Kf 296=some [(0,1),(1,1),(2,1)]:=by kernel_rfl
theorem Hv:plB Kf 298=some [(0,3)]:=by kernel_rfl
theorem Hs:Tryz.prog.underlying 251=some (.pointer (Tryz.prog.pointee 251)):=by kernel_rfl
theorem nS:faB Kf 283 0=some (0,1,true):=by kernel_rfl
theorem mg:faB Kf 283 1=some (1,1,true):=by kernel_rfl
theorem dE:faB Kf 116 0=some (0,1,true):=by kernel_rfl
theorem gB:faB Kf 116 1=some (1,1,true):=by kernel_rfl
theorem eJ:faB Kf 116 2=some (2,1,true):=by kernel_rfl
theorem cZ:faB Kf 43 0=some (0,4,false):=by kernel_rfl
theorem iU:faB Kf 43 1=some (4,1,true):=by kernel_rfl
theorem eA:faB Kf 43 2=some (5,1,true):=by kernel_rfl
theorem de:tiB Kf 116=some ([(aa 0),(vU8 0),(str [])],3,24):=by kernel_rfl
theorem xd:Tryz.prog.cellsOf 249=2:=by kernel_rfl
theorem pY:faB Kf 249 0=some (0,2,false):=by kernel_rfl
theorem mT:liesAt Kf Tryz.prog.depth 249 1 0 175 1=true:=by kernel_rfl
theorem qF:faB Kf 40 3=some (3,1,true):=by kernel_rfl
theorem Ii:tiB Kf 249=some ([(.pointer none),(.slice none 0 0)],2,32):=by kernel_rfl
theorem I43:tiB Kf 43=some ([(aa 0),(.slice none 0 0),(.slice none 0 0),(.bool false),(aa 0),(.slice none 0 0)],6,96):=by kernel_rfl
theorem HM:oW Kf 207=some [.int .u32,.int .u32]:=by kernel_rfl
theorem I41:tiB Kf 41=some ([(.slice none 0 0)],1,24):=by kernel_rfl
theorem pX:faB Kf 254 0=some (0,1,true):=by kernel_rfl
theorem dU:tiB Kf 254=some ([(.pointer none)],1,8):=by kernel_rfl
theorem tZ:plB Kf 116=some [(0,1),(1,1),(2,1)]:=by kernel_rfl
theorem I4:tiB Kf 4=some ([(.bool false)],1,1):=by kernel_rfl
theorem HA:plB Kf 254=some [(0,1)]:=by kernel_rfl
theorem kA:plB Kf 43=some [(0,4),(4,1),(5,1)]:=by kernel_rfl
theorem Ig:tiB Kf 283=some ([(str []),(vN 0)],2,24):=by kernel_rfl
theorem Hy:plB Kf 283=some [(0,1),(1,1)]:=by kernel_rfl
theorem yH:faB Kf 105 0=some (0,6,false):=by kernel_rfl
theorem GB:faB Kf 105 1=some (6,1,true):=by kernel_rfl
theorem Iw:tiB Kf 105=some ([(aa 0),(.slice none 0 0),(.slice none 0 0),(.bool false),(aa 0),(.slice none 0 0),(str [])],7,112):=by kernel_rfl
theorem HL:plB Kf 105=some [(0,6),(6,1)]:=by kernel_rfl
theorem mi:faB Kf 165 0=some (0,1,true):=by kernel_rfl
theorem ul:faB Kf 211 0=some (0,1,true):=by kernel_rfl
theorem Is:tiB Kf 165=some ([(.map none)],1,8):=by kernel_rfl
theorem HG:plB Kf 165=some [(0,1)]:=by kernel_rfl
theorem tY:Tryz.prog.underlying 163=some (.pointer (Tryz.prog.pointee 163)):=by kernel_rfl
theorem HY:zvB Kf 163=some (.pointer none):=by kernel_rfl
theorem uk:faB Kf 211 1=some (1,256,false):=by kernel_rfl
theorem pf:Tryz.prog.underlying 68=some (.pointer (Tryz.prog.pointee 68)):=by kernel_rfl
theorem Gj:tiB Kf 211=some ((Ki 257 (vU8 0)),257,257):=by kernel_rfl
theorem Cx:plB Kf 211=some [(0,1),(1,256)]:=by kernel_rfl
theorem uo:faB Kf 125 1=some (6,1,true):=by kernel_rfl
theorem Gz:faB Kf 125 0=some (0,6,false):=by kernel_rfl
theorem Iv:tiB Kf 125=some ([(aa 0),(.slice none 0 0),(.slice none 0 0),(.bool false),(aa 0),(.slice none 0 0),(.pointer none)],7,104):=by kernel_rfl
theorem HK:plB Kf 125=some [(0,6),(6,1)]:=by kernel_rfl
theorem vX:tiB Kf 337=some ([(cB 0)],1,8):=by kernel_rfl
theorem In:tiB Kf 209=some ((Ki 256 (vU8 0)),256,256):=by kernel_rfl
theorem pi:tiB Kf 120=some ([(vU8 0),(aa 0),(vN 0)],3,16):=by kernel_rfl
theorem Il:tiB Kf 234=some ([(.pointer none),(.slice none 0 0)],2,32):=by kernel_rfl
theorem Ik:tiB Kf 236=some ([(.pointer none),(.slice none 0 0),(.pointer none),(vN 0),(vU8 0),(aa 0),(vN 0),(str [])],8,80):=by kernel_rfl
theorem Ij:tiB Kf 242=some ([(aa 0),(aa 0),(aa 0),(aa 0),(aa 0),(aa 0),(aa 0),(aa 0),(aa 0),(aa 0),(aa 0),(aa 0),(aa 0),(aa 0),(aa 0),(aa 0),(aa 0)],17,68):=by kernel_rfl
theorem CA:plB Kf 120=some [(0,1),(1,1),(2,1)]:=by kernel_rfl
theorem HD:plB Kf 234=some [(0,1),(1,1)]:=by kernel_rfl
theorem HC:plB Kf 236=some [(0,2),(2,1),(3,1),(4,3),(7,1)]:=by kernel_rfl
theorem HB:plB Kf 242=some [(0,16),(16,1)]:=by kernel_rfl
theorem qd:faB Kf 142 0=some (0,1,true):=by kernel_rfl
theorem nU:faB Kf 142 2=some (2,1,true):=by kernel_rfl
theorem fN:faB Kf 146 1=some (1,27,false):=by kernel_rfl
theorem Gw:faB Kf 146 2=some (28,1,true):=by kernel_rfl
theorem Gv:faB Kf 193 1=some (2,1,true):=by kernel_rfl
theorem Gt:faB Kf 234 0=some (0,1,true):=by kernel_rfl
theorem Gs:faB Kf 236 0=some (0,2,false):=by kernel_rfl
theorem Gq:faB Kf 236 1=some (2,1,true):=by kernel_rfl
theorem Gp:faB Kf 236 3=some (4,3,false):=by kernel_rfl
theorem Gn:faB Kf 242 1=some (16,1,true):=by kernel_rfl
theorem iT:tiB Kf 142=some ([(.bool false),(vN 0),(.pointer none)],3,24):=by kernel_rfl
theorem qE:Tryz.prog.underlying 140=some (.pointer (Tryz.prog.pointee 140)):=by kernel_rfl
theorem Cw:Tryz.prog.underlying 169=some (.pointer (Tryz.prog.pointee 169)):=by kernel_rfl
theorem Cz:plB Kf 142=some [(0,1),(1,1),(2,1)]:=by kernel_rfl
theorem um:faB Kf 142 1=some (1,1,true):=by kernel_rfl
theorem Iu:tiB Kf 140=some ([(.pointer none)],1,8):=by kernel_rfl
theorem GA:faB Kf 120 0=some (0,1,true):=by kernel_rfl
theorem Ib:plB Kf 40=some [(0,1),(1,1),(2,1),(3,1)]:=by kernel_rfl
theorem pW:tiB Kf 136=some ([(aa 0),(vU8 0),(str [])],3,24):=by kernel_rfl
theorem HJ:plB Kf 136=some [(0,1),(1,1),(2,1)]:=by kernel_rfl
theorem un:faB Kf 136 0=some (0,1,true):=by kernel_rfl
theorem Gy:faB Kf 136 1=some (1,1,true):=by kernel_rfl
theorem Gx:faB Kf 136 2=some (2,1,true):=by kernel_rfl
theorem uf:faB Kf 81 1=some (1,9,false):=by kernel_rfl
theorem I81:tiB Kf 81=some ([(aa 0),(.bool false),(.bool false),(.bool false),(.bool false),(.bool false),(.bool false),(.bool false),(.bool false),(.bool false),(vN 0)],11,24):=by kernel_rfl
theorem HZ:plB Kf 81=some [(0,1),(1,9),(10,1)]:=by kernel_rfl
theorem ik:faB Kf 81 0=some (0,1,true):=by kernel_rfl
theorem HN:oW Kf 120=some [.int .u8,.int .u32,.int .i64]:=by kernel_rfl
end Fa
end Go.Proofs.YtbjhccnffacbcaaGreat
namespace Go.Proofs.YtbjhccnffacbcaaGreat
open Go.Owl Go.Spec
theorem ge (x:UInt32) (n:Nat) (hn:n≤32) (w:World) :
  Calls Kf 245 #[(aa x),(vN n)] w (fun e w'=>e=.returned (aa (rot x n))∧Fr [] w w'):=by
 refine enter Tryz.func245 O O ?_
 have H0:=aL w []
 refine ws<|wa O<|wn<|ap<|bn 9 Fa.M H0 (mh O<|mh O<|oh (fun w1 H1=>cP O O zr)<|mh O<|mh O<|oh (fun w1 H1=>bE (a:=32) O O (by omega) (by omega) zr)<|oh (fun w1 H1=>fj O O zr)<|oh (fun w1 H1=>fQ O O zr)<|ah O  bD) (by kernel_rfl) ?_
 intro β1 w1 H1
 exact wn<|aC<|aD (.tmp O .nil) (⟨rfl,H1.fr⟩)
theorem BY  (w:World) :
  Calls Kf 226 #[] w (fun e w'=>e=.returned (.agg #[aa dK.a,aa dK.b,aa dK.c,aa dK.d,aa dK.e,aa dK.f,aa dK.g,aa dK.h])∧Fr [] w w'):=by
 refine enter Tryz.func226 O O ?_
 have H0:=aL w []
 exact ws<|wo (bt H0 Fa.ij (fun b1 w1 H1=>(wn<|ws<|wo (mI (cs:=[_,_,_,_,_,_,_,_]) Fa.ij A322 Fa.I22 O O<|wo (bw (i:=0) H1 O O O O O Fa.ij (fun w2 H2=>(wn<|aC<|aD (.cell O (bM (vs:=[_,_,_,_,_,_,_,_]) (H2.cells (i:=0) O O) A322 O Fa.ij O) .nil) (⟨rfl,H2.fr⟩))))))))
theorem Ek  (w:World) :
  Calls Kf 244 #[] w (fun e w'=>e=.returned (.agg (kT.map aa).toArray)∧Fr [] w w'):=by
 refine enter Tryz.func244 O O ?_
 have H0:=aL w []
 exact ws<|wo (bt H0 Fa.mf (fun b1 w1 H1=>(wn<|ws<|wo (mI (cs:=kT.map aa) Fa.mf A344 Fa.I22 O (by kernel_rfl)<|wo (ff (i:=0) H1 O O O (by kernel_rfl) (ld _) (by kernel_rfl) Fa.mf (fun w2 H2=>(wn<|aC<|aD (.cell O (bM (H2.cellsW (i:=0) O) A344 O Fa.mf (by kernel_rfl)) .nil) (⟨rfl,H2.fr⟩))))))))
theorem AA (v:Value) (b:List UInt8) (w:World) (hl:b.length=64) (hA:Arr w v 1 64 (b.map vU8)) :
  Calls Kf 243 #[v] w (fun e w'=>e=.returned (.agg ((wl b 64).map aa).toArray)∧Fr [] w w'):=by
 refine enter Tryz.func243 O O ?_
 have H0:=aL w []
 refine ws<|wo (bt H0 Fa.mf (fun b1 w1 H1=>(wn<|ap<|ws<|wm O<|wn<|aB<|bi (α:=Nat) (fun k=>[(0,v),(2,(ptr b1 0)),(7,(vN k))]) (fun k w'=>(k≤16)∧Ke [] w w' [.blk b1 (wC b k) 344]) (fun k=>16-k) 0 ⟨(by omega),H1⟩ ⟨rfl,rfl,rfl,trivial⟩ ?_)))
 rintro k w2 ⟨hinv,H2⟩
 show WC _ _ _ _ _ [(0,v),(2,(ptr b1 0)),(7,(vN k))] _
 refine ws<|wo (bm (b:=16) O O<|wn<|ap (wE (k<16) (fun hb3 hc3=>?_) (fun hb3 hc3=>?_)))
 ·
  refine aA<|ao<|ap<|aB<|ws<|wm O<|wa O<|wn<|bn 35 Fa.M H2 (mh O<|mh O<|mh O<|oh (fun w1 H1=>fd (a:=4) O O (by omega) zr)<|oh (fun w1 H1=>aF A114 Fa.I5 O (H1.arr hA) O (by omega) zr)<|oh (fun w1 H1=>aj O ((H1.arr hA).at (aR vU8 0 (by omega))) A5 O zr)<|oh (fun w1 H1=>dm (hs:=A5) (hd:=A22) O zr)<|oh (fun w1 H1=>fj (s:=24) O O zr)<|mh O<|mh O<|oh (fun w1 H1=>fd (a:=4) O O (by omega) zr)<|oh (fun w1 H1=>aU (b:=1) O O (by omega) zr)<|oh (fun w1 H1=>aF A114 Fa.I5 O (H1.arr hA) O (by omega) zr)<|oh (fun w1 H1=>aj O ((H1.arr hA).at (aR vU8 0 (by omega))) A5 O zr)<|oh (fun w1 H1=>dm (hs:=A5) (hd:=A22) O zr)<|oh (fun w1 H1=>fj (s:=16) O O zr)<|oh (fun w1 H1=>fQ O O zr)<|mh O<|mh O<|oh (fun w1 H1=>fd (a:=4) O O (by omega) zr)<|oh (fun w1 H1=>aU (b:=2) O O (by omega) zr)<|oh (fun w1 H1=>aF A114 Fa.I5 O (H1.arr hA) O (by omega) zr)<|oh (fun w1 H1=>aj O ((H1.arr hA).at (aR vU8 0 (by omega))) A5 O zr)<|oh (fun w1 H1=>dm (hs:=A5) (hd:=A22) O zr)<|oh (fun w1 H1=>fj (s:=8) O O zr)<|oh (fun w1 H1=>fQ O O zr)<|mh O<|mh O<|oh (fun w1 H1=>fd (a:=4) O O (by omega) zr)<|oh (fun w1 H1=>aU (b:=3) O O (by omega) zr)<|oh (fun w1 H1=>aF A114 Fa.I5 O (H1.arr hA) O (by omega) zr)<|oh (fun w1 H1=>aj O ((H1.arr hA).at (aR vU8 0 (by omega))) A5 O zr)<|oh (fun w1 H1=>dm (hs:=A5) (hd:=A22) O zr)<|oh (fun w1 H1=>fQ O O zr)<|oh (fun w1 H1=>br A344 Fa.I22 O O (by omega) zr)  bD) (by kernel_rfl) ?_
  intro β4 w4 H4
  refine wo (bC (i:=0) H4 O O O (by rw [Nat.blt_eq,gN _ _ (by omega)]; omega) O Fa.I22 (fun w5 H5=>?_))
  exact aY<|aE<|ao<|aG<|wo (aU (b:=1) O O (by omega)<|wm O<|aY<|aX (k+1) ⟨(by omega),(by rw [xj b (k:=k) (by omega),if_pos (by omega)]; exact H5)⟩ ⟨rfl,rfl,rfl,trivial⟩ (by omega))
 refine bc<|an<|an<|aS<|ao<|ap<|ws<|wa O<|wn<|aB<|bi (α:=Nat) (fun k=>[(0,v),(2,(ptr b1 0)),(4,(vN k))]) (fun k w'=>((16≤k∧k≤64))∧Ke [] w w' [.blk b1 (wC b k) 344]) (fun k=>64-k) 16 ⟨(by omega),(by have hk:k=16:=(by omega); subst hk; exact H2)⟩ ⟨rfl,rfl,rfl,trivial⟩ ?_
 rintro k w6 ⟨hinv,H6⟩
 show WC _ _ _ _ _ [(0,v),(2,(ptr b1 0)),(4,(vN k))] _
 refine ap<|ws<|wm O<|wo (bm (b:=64) O O<|wn (wE (k<64) (fun hb7 hc7=>?_) (fun hb7 hc7=>?_)))
 ·
  refine aA<|ao<|ap<|aB<|ap<|bn 10 Fa.M H6 (mh O<|oh (fun w1 H1=>bE (b:=15) O O (by omega) (by omega) zr)<|oh (fun w1 H1=>br A344 Fa.I22 O O (by omega) zr)<|oh (fun w1 H1=>aj O (H1.cell (i:=0) O (pw b (by omega))) A22 O zr)<|mh O<|oh (fun w1 H1=>bE (b:=2) O O (by omega) (by omega) zr)<|oh (fun w1 H1=>br A344 Fa.I22 O O (by omega) zr)<|oh (fun w1 H1=>aj O (H1.cell (i:=0) O (pw b (by omega))) A22 O zr)<|ah O<|ah O  bD) (by kernel_rfl) ?_
  intro β8 w8 H8
  refine wn<|bn 29 Fa.M H8 (mh O<|mh O<|oh (fun w1 H1=>bE (b:=16) O O (by omega) (by omega) zr)<|oh (fun w1 H1=>br A344 Fa.I22 O O (by omega) zr)<|oh (fun w1 H1=>aj O (H1.cell (i:=0) O (pw b (by omega))) A22 O zr)<|mh O<|oh (fun w1 H1=>az (Kd 245) O ((ge ((wl b k).getD (k-15) 0) 7 (by decide) _).mono (fun e w2 hq=>⟨_,hq.1,rfl,hq.2⟩)))<|mh O<|oh (fun w1 H1=>az (Kd 245) O ((ge ((wl b k).getD (k-15) 0) 18 (by decide) _).mono (fun e w2 hq=>⟨_,hq.1,rfl,hq.2⟩)))<|oh (fun w1 H1=>cE O O zr)<|mh O<|oh (fun w1 H1=>cP (s:=3) O O zr)<|oh (fun w1 H1=>cE O O zr)<|oh (fun w1 H1=>bW O O zr)<|mh O<|oh (fun w1 H1=>bE (b:=7) O O (by omega) (by omega) zr)<|oh (fun w1 H1=>br A344 Fa.I22 O O (by omega) zr)<|oh (fun w1 H1=>aj O (H1.cell (i:=0) O (pw b (by omega))) A22 O zr)<|oh (fun w1 H1=>bW O O zr)<|mh O<|oh (fun w1 H1=>az (Kd 245) O ((ge ((wl b k).getD (k-2) 0) 17 (by decide) _).mono (fun e w2 hq=>⟨_,hq.1,rfl,hq.2⟩)))<|mh O<|oh (fun w1 H1=>az (Kd 245) O ((ge ((wl b k).getD (k-2) 0) 19 (by decide) _).mono (fun e w2 hq=>⟨_,hq.1,rfl,hq.2⟩)))<|oh (fun w1 H1=>cE O O zr)<|mh O<|oh (fun w1 H1=>cP (s:=10) O O zr)<|oh (fun w1 H1=>cE O O zr)<|oh (fun w1 H1=>bW O O zr)<|oh (fun w1 H1=>br A344 Fa.I22 O O (by omega) zr)  bD) (by kernel_rfl) ?_
  intro β13 w13 H13
  refine wo (bC (i:=0) H13 O O O (by rw [Nat.blt_eq,gN _ _ (by omega)]; omega) O Fa.I22 (fun w14 H14=>?_))
  exact aY<|aE<|ao<|aG<|wm O<|wo (aU (b:=1) O O (by omega)<|wa O<|aY<|aX (k+1) ⟨(by omega),(by rw [xj b (k:=k) (by omega),if_neg (by omega)]; exact H14)⟩ ⟨rfl,rfl,rfl,trivial⟩ (by omega))
 refine bc<|an<|an<|aS<|ao<|ws<|wo (aM O (H6.cellsW (i:=0) O) A344 O Fa.mf (gN _ _ (by omega))<|wo (ff (i:=0) H6 O O O (by rw [gN _ _ (by omega)]; exact Nat.beq_refl 64) (by have hk:k=64:=(by omega); subst hk; rw [xk]; exact ld _) (gN _ _ (by omega)) Fa.mf (fun w15 H15=>?_)))
 exact wn<|aC<|aD (.cell O (bM (H15.cellsW (i:=0) O) A344 O Fa.mf (gN _ _ (by omega))) .nil) (⟨by have hk:k=64:=(by omega); subst hk; rw [←xk]; rfl,H15.fr⟩)
theorem tP (h:St) (v:Value) (b:List UInt8) (w:World) (hl:b.length=64) (hA:Arr w v 1 64 (b.map vU8)) :
  Calls Kf 228 #[(.agg #[(aa h.a),(aa h.b),(aa h.c),(aa h.d),(aa h.e),(aa h.f),(aa h.g),(aa h.h)]),v] w (fun e w'=>e=.returned (.agg #[aa (eI h b).a,aa (eI h b).b,aa (eI h b).c,aa (eI h b).d,aa (eI h b).e,aa (eI h b).f,aa (eI h b).g,aa (eI h b).h])∧Fr [] w w'):=by
 refine enter Tryz.func228 O O ?_
 have H0:=aL w []
 refine ws<|wo (bK H0 O O (fun b1 w1 H1=>(wo (bt H1 Fa.ij (fun b2 w2 H2=>(wn<|ap<|bn 7 Fa.M H2 (oh (fun w1 H1=>aM (vs:=[_,_,_,_,_,_,_,_]) O (H1.cells (i:=0) O O) A322 O Fa.ij O zr)<|mh O<|oh (fun w1 H1=>az (Kd 243) O ((AA _ _ _ hl (H1.arr hA)).mono (fun e w2 hq=>⟨_,hq.1,rfl,hq.2⟩)))<|oh (fun w1 H1=>az (Kd 244) O ((Ek _).mono (fun e w2 hq=>⟨_,hq.1,rfl,hq.2⟩)))<|HW.flt (mk:=fun bq=>ptr bq.1 0) (ent:=fun bq=>.blk bq.1 _ _) O (fun w1 _=>bt (aL w1 []) Fa.ij (fun bq w2 H2=>⟨(bq,undef),rfl,H2,ae⟩))<|HW.flt (mk:=fun bq=>ptr bq.1 0) (ent:=fun bq=>.blk bq.1 _ _) O (fun w1 _=>bt (aL w1 []) Fa.mf (fun bq w2 H2=>⟨(bq,undef),rfl,H2,ae⟩))<|HW.flt (mk:=fun bq=>ptr bq.1 0) (ent:=fun bq=>.blk bq.1 _ _) O (fun w1 _=>bt (aL w1 []) Fa.mf (fun bq w2 H2=>⟨(bq,undef),rfl,H2,ae⟩))  bD) (by kernel_rfl) ?_))))))
 intro β5 w5 H5
 refine wo (bw (i:=2) H5 O O O O O Fa.ij (fun w6 H6=>(wo (ff (i:=3) H6 O O O (by rw [List.length_map,fI,List.length_replicate]; rfl) (ld _) (by rw [List.length_map,fI]) Fa.mf (fun w7 H7=>(wo (ff (i:=4) H7 O O O (by kernel_rfl) (ld _) (by kernel_rfl) Fa.mf (fun w8 H8=>(wn<|ap<|ws<|wm O<|wn<|aB<|bi (α:=Nat) (fun t=>[(2,(ptr b1 0)),(4,(ptr b2 0)),(5,(ptr (β5 4).1 0)),(6,(ptr (β5 5).1 0)),(7,(ptr (β5 6).1 0)),(16,(vN t))]) (fun t w'=>(t≤64)∧Ke [] w w' [.blk b1 [(aa h.a),(aa h.b),(aa h.c),(aa h.d),(aa h.e),(aa h.f),(aa h.g),(aa h.h)] 322,.blk b2 [(aa 0),(aa 0),(aa 0),(aa 0),(aa 0),(aa 0),(aa 0),(aa 0)] 322,.blk (β5 4).1 [(aa (dr h (wl b 64) t).a),(aa (dr h (wl b 64) t).b),(aa (dr h (wl b 64) t).c),(aa (dr h (wl b 64) t).d),(aa (dr h (wl b 64) t).e),(aa (dr h (wl b 64) t).f),(aa (dr h (wl b 64) t).g),(aa (dr h (wl b 64) t).h)] 322,.blk (β5 5).1 ((wl b 64).map aa) 344,.blk (β5 6).1 (kT.map aa) 344]) (fun t=>64-t) 0 ⟨(by omega),H8⟩ ⟨rfl,rfl,rfl,rfl,rfl,rfl,trivial⟩ ?_)))))))))
 rintro t w9 ⟨hinv,H9⟩
 show WC _ _ _ _ _ [(2,(ptr b1 0)),(4,(ptr b2 0)),(5,(ptr (β5 4).1 0)),(6,(ptr (β5 5).1 0)),(7,(ptr (β5 6).1 0)),(16,(vN t))] _
 refine ws<|wo (bm (b:=64) O O<|wn<|ap (wE (t<64) (fun hb10 hc10=>?_) (fun hb10 hc10=>?_)))
 ·
  refine aA<|ao<|ap<|aB<|ws<|wm O<|wa O<|wn<|ap<|bn 35 Fa.M H9 (oh (fun w1 H1=>br (m:=7) A322 Fa.I22 O O (by omega) zr)<|oh (fun w1 H1=>aj O (H1.cell (i:=2) O O) A22 O zr)<|oh (fun w1 H1=>br (m:=4) A322 Fa.I22 O O (by omega) zr)<|oh (fun w1 H1=>aj O (H1.cell (i:=2) O O) A22 O zr)<|oh (fun w1 H1=>az (Kd 245) O ((ge ((dr h (wl b 64) t).e) 6 (by decide) _).mono (fun e w2 hq=>⟨_,hq.1,rfl,hq.2⟩)))<|oh (fun w1 H1=>br (m:=4) A322 Fa.I22 O O (by omega) zr)<|oh (fun w1 H1=>aj O (H1.cell (i:=2) O O) A22 O zr)<|oh (fun w1 H1=>az (Kd 245) O ((ge ((dr h (wl b 64) t).e) 11 (by decide) _).mono (fun e w2 hq=>⟨_,hq.1,rfl,hq.2⟩)))<|oh (fun w1 H1=>cE O O zr)<|oh (fun w1 H1=>br (m:=4) A322 Fa.I22 O O (by omega) zr)<|oh (fun w1 H1=>aj O (H1.cell (i:=2) O O) A22 O zr)<|oh (fun w1 H1=>az (Kd 245) O ((ge ((dr h (wl b 64) t).e) 25 (by decide) _).mono (fun e w2 hq=>⟨_,hq.1,rfl,hq.2⟩)))<|oh (fun w1 H1=>cE O O zr)<|oh (fun w1 H1=>bW O O zr)<|oh (fun w1 H1=>br (m:=4) A322 Fa.I22 O O (by omega) zr)<|oh (fun w1 H1=>aj O (H1.cell (i:=2) O O) A22 O zr)<|oh (fun w1 H1=>br (m:=5) A322 Fa.I22 O O (by omega) zr)<|oh (fun w1 H1=>aj O (H1.cell (i:=2) O O) A22 O zr)<|oh (fun w1 H1=>fm O O zr)<|oh (fun w1 H1=>br (m:=6) A322 Fa.I22 O O (by omega) zr)<|oh (fun w1 H1=>aj O (H1.cell (i:=2) O O) A22 O zr)<|oh (fun w1 H1=>br (m:=4) A322 Fa.I22 O O (by omega) zr)<|oh (fun w1 H1=>aj O (H1.cell (i:=2) O O) A22 O zr)<|oh (fun w1 H1=>vi O O zr)<|oh (fun w1 H1=>cE O O zr)<|oh (fun w1 H1=>bW O O zr)<|mh O<|oh (fun w1 H1=>br A344 Fa.I22 O O (by omega) zr)<|oh (fun w1 H1=>aj O (H1.cell (i:=4) O (lR aa 0 (by rw [wQ]; omega))) A22 O zr)<|oh (fun w1 H1=>bW O O zr)<|mh O<|oh (fun w1 H1=>br A344 Fa.I22 O O (by omega) zr)<|oh (fun w1 H1=>aj O (H1.cell (i:=3) O (lR aa 0 (by rw [fI]; omega))) A22 O zr)<|oh (fun w1 H1=>bW O O zr)<|ah O  bD) (by kernel_rfl) ?_
  intro β14 w14 H14
  refine wn<|ap<|bn 30 Fa.M H14 (oh (fun w1 H1=>br (m:=0) A322 Fa.I22 O O (by omega) zr)<|oh (fun w1 H1=>aj O (H1.cell (i:=2) O O) A22 O zr)<|oh (fun w1 H1=>az (Kd 245) O ((ge ((dr h (wl b 64) t).a) 2 (by decide) _).mono (fun e w2 hq=>⟨_,hq.1,rfl,hq.2⟩)))<|oh (fun w1 H1=>br (m:=0) A322 Fa.I22 O O (by omega) zr)<|oh (fun w1 H1=>aj O (H1.cell (i:=2) O O) A22 O zr)<|oh (fun w1 H1=>az (Kd 245) O ((ge ((dr h (wl b 64) t).a) 13 (by decide) _).mono (fun e w2 hq=>⟨_,hq.1,rfl,hq.2⟩)))<|oh (fun w1 H1=>cE O O zr)<|oh (fun w1 H1=>br (m:=0) A322 Fa.I22 O O (by omega) zr)<|oh (fun w1 H1=>aj O (H1.cell (i:=2) O O) A22 O zr)<|oh (fun w1 H1=>az (Kd 245) O ((ge ((dr h (wl b 64) t).a) 22 (by decide) _).mono (fun e w2 hq=>⟨_,hq.1,rfl,hq.2⟩)))<|oh (fun w1 H1=>cE O O zr)<|oh (fun w1 H1=>br (m:=0) A322 Fa.I22 O O (by omega) zr)<|oh (fun w1 H1=>aj O (H1.cell (i:=2) O O) A22 O zr)<|oh (fun w1 H1=>br (m:=1) A322 Fa.I22 O O (by omega) zr)<|oh (fun w1 H1=>aj O (H1.cell (i:=2) O O) A22 O zr)<|oh (fun w1 H1=>fm O O zr)<|oh (fun w1 H1=>br (m:=0) A322 Fa.I22 O O (by omega) zr)<|oh (fun w1 H1=>aj O (H1.cell (i:=2) O O) A22 O zr)<|oh (fun w1 H1=>br (m:=2) A322 Fa.I22 O O (by omega) zr)<|oh (fun w1 H1=>aj O (H1.cell (i:=2) O O) A22 O zr)<|oh (fun w1 H1=>fm O O zr)<|oh (fun w1 H1=>cE O O zr)<|oh (fun w1 H1=>br (m:=1) A322 Fa.I22 O O (by omega) zr)<|oh (fun w1 H1=>aj O (H1.cell (i:=2) O O) A22 O zr)<|oh (fun w1 H1=>br (m:=2) A322 Fa.I22 O O (by omega) zr)<|oh (fun w1 H1=>aj O (H1.cell (i:=2) O O) A22 O zr)<|oh (fun w1 H1=>fm O O zr)<|oh (fun w1 H1=>cE O O zr)<|oh (fun w1 H1=>bW O O zr)<|ah O  bD) (by kernel_rfl) ?_
  intro β18 w18 H18
  exact wn<|aG<|wm O<|wm O<|wo (bW O O<|wo (br (m:=0) A322 Fa.I22 O O (by omega)<|wo (aj O (H18.cell (i:=2) O O) A22 O<|wo (br (m:=1) A322 Fa.I22 O O (by omega)<|wo (aj O (H18.cell (i:=2) O O) A22 O<|wo (br (m:=2) A322 Fa.I22 O O (by omega)<|wo (aj O (H18.cell (i:=2) O O) A22 O<|wo (br (m:=3) A322 Fa.I22 O O (by omega)<|wo (aj O (H18.cell (i:=2) O O) A22 O<|wm O<|wo (bW O O<|wo (br (m:=4) A322 Fa.I22 O O (by omega)<|wo (aj O (H18.cell (i:=2) O O) A22 O<|wo (br (m:=5) A322 Fa.I22 O O (by omega)<|wo (aj O (H18.cell (i:=2) O O) A22 O<|wo (br (m:=6) A322 Fa.I22 O O (by omega)<|wo (aj O (H18.cell (i:=2) O O) A22 O<|wo (mI (cs:=[_,_,_,_,_,_,_,_]) Fa.ij A322 Fa.I22 O O<|wo (bw (i:=2) H18 O O O O O Fa.ij (fun w19 H19=>(aY<|aE<|ao<|aG<|wo (aU (b:=1) O O (by omega)<|wm O<|aY<|aX (t+1) ⟨(by omega),(by exact H19)⟩ ⟨rfl,rfl,rfl,rfl,rfl,rfl,trivial⟩ (by omega))))))))))))))))))))))
 refine bc<|an<|an<|aS<|ao<|ap<|ws<|wm O<|wn<|aB<|bi (α:=Nat) (fun k=>[(2,(ptr b1 0)),(4,(ptr b2 0)),(5,(ptr (β5 4).1 0)),(103,(vN k))]) (fun k w'=>(k≤8)∧Ke [] w w' [.blk b1 (h.vals.map aa) 322,.blk b2 [(aa 0),(aa 0),(aa 0),(aa 0),(aa 0),(aa 0),(aa 0),(aa 0)] 322,.blk (β5 4).1 ((iC (dr h (wl b 64) 64) h k).map aa) 322,.blk (β5 5).1 ((wl b 64).map aa) 344,.blk (β5 6).1 (kT.map aa) 344]) (fun k=>8-k) 0 ⟨(by omega),(by have ht:t=64:=(by omega); subst ht; exact H9)⟩ ⟨rfl,rfl,rfl,rfl,trivial⟩ ?_
 rintro k w20 ⟨hinv,H20⟩
 show WC _ _ _ _ _ [(2,(ptr b1 0)),(4,(ptr b2 0)),(5,(ptr (β5 4).1 0)),(103,(vN k))] _
 refine ws<|wo (bm (b:=8) O O<|wn<|ap (wE (k<8) (fun hb21 hc21=>?_) (fun hb21 hc21=>?_)))
 ·
  refine aA<|ao<|ap<|aB<|ws<|wm O<|wa O<|wn<|bn 8 Fa.M H20 (mh O<|oh (fun w1 H1=>br A322 Fa.I22 O O (by omega) zr)<|oh (fun w1 H1=>aj O (H1.cell (i:=2) O (lR aa 0 (by rw [fF _ _ _ (by omega)]; omega))) A22 O zr)<|mh O<|oh (fun w1 H1=>br A322 Fa.I22 O O (by omega) zr)<|oh (fun w1 H1=>aj O (H1.cell (i:=0) O (lR aa 0 (by rw [nZ]; omega))) A22 O zr)<|oh (fun w1 H1=>bW O O zr)<|oh (fun w1 H1=>br A322 Fa.I22 O O (by omega) zr)  bD) (by kernel_rfl) ?_
  intro β22 w22 H22
  refine wo (bC (i:=2) H22 O O O (by rw [Nat.blt_eq,List.length_map,fF _ _ _ (by omega)]; omega) O Fa.I22 (fun w23 H23=>?_))
  exact aY<|aE<|ao<|aG<|wo (aU (b:=1) O O (by omega)<|wm O<|aY<|aX (k+1) ⟨(by omega),(by rw [Am _ _ (by omega)]; exact H23)⟩ ⟨rfl,rfl,rfl,rfl,trivial⟩ (by omega))
 refine bc<|an<|an<|aS<|ao<|ws<|wo (aM O (H20.cellsW (i:=2) O) A322 O Fa.ij (by rw [List.length_map,fF _ _ _ (by omega)]) ?_)
 refine wo (ff (i:=1) H20 O O O (by rw [List.length_map,fF _ _ _ (by omega)]; rfl) (ld _) (by rw [List.length_map,fF _ _ _ (by omega)]) Fa.ij (fun w24 H24=>?_))
 refine wn<|aC<|aD (.cell O (bM (H24.cellsW (i:=1) O) A322 O Fa.ij (by rw [List.length_map,fF _ _ _ (by omega)])) .nil) ?_
 exact ⟨by have hk:k=8:=(by omega); subst hk; rw [An]; rfl,H24.fr⟩
theorem sY  (w:World) :
  Calls Kf 191 #[] w (fun e w'=> ∃q,e=.returned (ptr q 0)∧Ke [] w w' [.blk q [(aa (hst ([]:List UInt8)).a),(aa (hst ([]:List UInt8)).b),(aa (hst ([]:List UInt8)).c),(aa (hst ([]:List UInt8)).d),(aa (hst ([]:List UInt8)).e),(aa (hst ([]:List UInt8)).f),(aa (hst ([]:List UInt8)).g),(aa (hst ([]:List UInt8)).h),(.slice none 0 0),(vN ([]:List UInt8).length)] 325,.row (.slice none 0 0) 5 1 (hrest ([]:List UInt8)).length ((hrest ([]:List UInt8)).map vU8)]):=by
 refine enter Tryz.func191 O O ?_
 have H0:=aL w []
 exact ws<|wa O<|wn<|ws<|wo (cq H0 (Kd 226) O (BY _) fun w1 H1=>(wo (bP (cs:=[_,_,_,_,_,_,_,_,_,_]) Fa.Ic Fa.Hu O O<|wo (bK H1 O O (fun b2 w2 H2=>(wa O<|wn<|aC<|aD (.tmp O .nil) (⟨b2,rfl,H2.nilRow _ _⟩)))))))
theorem li (q:Nat) (v lv:Value) (all:List UInt8) (ls:List (List UInt8)) (T:List Nat) (w:World) (H:Ke T w w [.blk q [(aa (hst all).a),(aa (hst all).b),(aa (hst all).c),(aa (hst all).d),(aa (hst all).e),(aa (hst all).f),(aa (hst all).g),(aa (hst all).h),v,(vN all.length)] 325,.row v 5 1 (hrest all).length ((hrest all).map vU8)]) {nl:Nat} (hA: ∀w1,Fr T w w1→Arr w1 lv 1 nl (ls.map str)) (hb:(all++ls.flatten).length<2^40) (hn:ls.length<2^40) :
  Calls Kf 193 #[(ptr q 0),lv] w (fun e w'=> ∃v,e=.returned (vN 0)∧Ke T w w' [.blk q [(aa (hst (all++ls.flatten)).a),(aa (hst (all++ls.flatten)).b),(aa (hst (all++ls.flatten)).c),(aa (hst (all++ls.flatten)).d),(aa (hst (all++ls.flatten)).e),(aa (hst (all++ls.flatten)).f),(aa (hst (all++ls.flatten)).g),(aa (hst (all++ls.flatten)).h),v,(vN (all++ls.flatten).length)] 325,.row v 5 1 (hrest (all++ls.flatten)).length ((hrest (all++ls.flatten)).map vU8)]):=by
 refine enter Tryz.func193 O O ?_
 obtain rfl:=(hA w (Fr.refl _ _)).mapLen
 refine ws<|wa O<|wn<|ap<|ws<|wm O<|wo (bG Fa.Ct O O<|wn<|bF O O<|aA<|ao<|ap<|ws<|wm O<|wo (bu A59 O (hA _ H.fr)<|wm O<|wn<|aB<|bi (α:=Nat × Value) (fun (k,v)=>[(0,(ptr q 0)),(9,lv),(10,(vN ls.length)),(11,(vN k))]) (fun (k,v) w'=>(k≤ls.length)∧Ke T w w' [.blk q [(aa (hst (acc all ls k)).a),(aa (hst (acc all ls k)).b),(aa (hst (acc all ls k)).c),(aa (hst (acc all ls k)).d),(aa (hst (acc all ls k)).e),(aa (hst (acc all ls k)).f),(aa (hst (acc all ls k)).g),(aa (hst (acc all ls k)).h),v,(vN (acc all ls k).length)] 325,.row v 5 1 (hrest (acc all ls k)).length (Kg vU8 (hrest (acc all ls k)))]) (fun (k,v)=>ls.length-k) (0,v) ⟨(by omega),H⟩ ⟨rfl,rfl,rfl,rfl,trivial⟩ ?_))
 rintro ⟨k,v⟩ w1 ⟨hinv,H1⟩
 show WC _ _ _ _ _ [(0,(ptr q 0)),(9,lv),(10,(vN ls.length)),(11,(vN k))] _
 have hl0:=vV all ls k (by omega)
 have hr0:=gi (acc all ls k)
 refine ws<|wo (bm O O<|wn<|ap (wE (k<ls.length) (fun hb2 hc2=>?_) (fun hb2 hc2=>?_)))
 ·
  have hl1:=Cp all ls k hc2
  refine aA<|ao<|ap<|aB<|ws<|wo (aF A59 Fa.I9 O (hA _ H1.fr) O (by omega)<|wo (aj O ((hA _ H1.fr).at (aR str [] (by first | omega | (simp; omega)))) A9 O ?_))
  refine wa O<|wn<|ws<|wm O<|wm O<|wo (aJ O<|wo (ab O Fa.kB<|wo (aj O (H1.cell (i:=0) O O) A114 O<|wm O<|wo (cx (f:=vU8) (l:=(hrest (acc all ls k))) (l':=(ls.getD k [])) (i:=1) H1 A114 Fa.I5 O O O O (Src.ofStr A9) (cV (fun _=>rfl)) (by omega) (by omega) (fun v3 w3 H3=>(wo (aJ O<|wo (ab O Fa.kB<|wo (bC (i:=0) H3 O O O O (bS (H3.arrR (i:=1) O)) Fa.CB (fun w4 H4=>(wn<|ws<|wm O<|wo (aJ O<|wo (ab O Fa.ug<|wo (aj O (H4.cell (i:=0) O O) A3 O<|wm O<|wo (bH A9 O<|wo (aU O O (by omega)<|wo (aJ O<|wo (ab O Fa.ug<|wo (bC (i:=0) H4 O O O O O Fa.I3 (fun w5 H5=>(wn<|aB<|bi (α:=Nat × Value) (fun (j,v)=>[(0,(ptr q 0)),(6,(str (ls.getD k []))),(9,lv),(10,(vN ls.length)),(11,(vN k))]) (fun (j,v) w'=>(64 * j≤(hrest (acc all ls k)).length+(ls.getD k []).length)∧Ke T w w' [.blk q [(aa (bst (hst (acc all ls k)) (hrest (acc all ls k)++(ls.getD k [])) j).a),(aa (bst (hst (acc all ls k)) (hrest (acc all ls k)++(ls.getD k [])) j).b),(aa (bst (hst (acc all ls k)) (hrest (acc all ls k)++(ls.getD k [])) j).c),(aa (bst (hst (acc all ls k)) (hrest (acc all ls k)++(ls.getD k [])) j).d),(aa (bst (hst (acc all ls k)) (hrest (acc all ls k)++(ls.getD k [])) j).e),(aa (bst (hst (acc all ls k)) (hrest (acc all ls k)++(ls.getD k [])) j).f),(aa (bst (hst (acc all ls k)) (hrest (acc all ls k)++(ls.getD k [])) j).g),(aa (bst (hst (acc all ls k)) (hrest (acc all ls k)++(ls.getD k [])) j).h),v,(vN ((acc all ls k).length+(ls.getD k []).length))] 325,.row v 5 1 (cA (hrest (acc all ls k)++(ls.getD k [])) j).length (Kg vU8 (cA (hrest (acc all ls k)++(ls.getD k [])) j))]) (fun (j,v)=>(hrest (acc all ls k)).length+(ls.getD k []).length-64 * j) (0,v3) ⟨(by omega),(by have h:=H5; rw [← @Kj _ (hrest (acc all ls k)) (ls.getD k [])] at h; exact h)⟩ ⟨rfl,rfl,rfl,rfl,rfl,trivial⟩ ?_)))))))))))))))))))))
  rintro ⟨j,v⟩ w6 ⟨hinv,H6⟩
  show WC _ _ _ _ _ [(0,(ptr q 0)),(6,(str (ls.getD k []))),(9,lv),(10,(vN ls.length)),(11,(vN k))] _
  have hb0:=fD (hrest (acc all ls k)++(ls.getD k [])) j
  rw [Kj] at hb0
  refine ap<|ws<|wm O<|wo (aJ O<|wo (ab O Fa.kB<|wo (aj O (H6.cell (i:=0) O O) A114 O<|wo (bu A114 O (H6.arrR (i:=1) O)<|wo (dI (b:=64) O O<|wn (wE ((cA (hrest (acc all ls k)++(ls.getD k [])) j).length≥64) (fun hb7 hc7=>?_) (fun hb7 hc7=>?_)))))))
  ·
   refine aA<|ao<|aB<|ap<|bn 13 Fa.M H6 (mh O<|mh O<|oh (fun w1 H1=>aJ O zr)<|oh (fun w1 H1=>ab O Fa.ui zr)<|oh (fun w1 H1=>aM (vs:=[_,_,_,_,_,_,_,_]) O (H1.cells (i:=0) O O) A322 O Fa.ij O zr)<|mh O<|oh (fun w1 H1=>aJ O zr)<|oh (fun w1 H1=>ab O Fa.kB zr)<|oh (fun w1 H1=>aj O (H1.cell (i:=0) O O) A114 O zr)<|oh (fun w1 H1=>hU (b:=64) A114 Fa.I5 O (H1.arrR (i:=1) O) O (by omega) zr)<|oh (fun w1 H1=>az (Kd 228) O ((tP (bst (hst (acc all ls k)) (hrest (acc all ls k)++(ls.getD k [])) j) _ ((cA (hrest (acc all ls k)++(ls.getD k [])) j).take 64) _ (by rw [List.length_take]; omega) (((H1.arrR (i:=1) O)).cutHiM (f:=vU8) (l:=(cA (hrest (acc all ls k)++(ls.getD k [])) j)) (b:=64) (by omega))).mono (fun e w2 hq=>⟨_,hq.1,rfl,hq.2⟩)))<|oh (fun w1 H1=>aJ O zr)<|oh (fun w1 H1=>ab O Fa.ui zr)  bD) (by kernel_rfl) ?_
   intro β9 w9 H9
   refine wo (lB (i:=0) (vs:=[_,_,_,_,_,_,_,_]) H9 O O O O O Fa.ij (fun w10 H10=>(wn<|aG<|wm O<|wm O<|wo (aJ O<|wo (ab O Fa.kB<|wo (aj O (H10.cell (i:=0) O O) A114 O<|wo (jL (a:=64) A114 Fa.I5 O (H10.arrR (i:=1) O) O (by omega) ?_)))))))
   have H11:=H10.cutLoM (f:=vU8) (l:=(cA (hrest (acc all ls k)++(ls.getD k [])) j)) (a:=64) (i:=1) O (by omega)
   exact wo (aJ O<|wo (ab O Fa.kB<|wo (bC (i:=0) H11 O O O O (bS (H11.arrR (i:=1) O)) Fa.CB (fun w12 H12=>(aY<|aE<|aX (j+1,(fT v 64 (cA (hrest (acc all ls k)++(ls.getD k [])) j).length 1)) ⟨(by omega),(by have h:=H12; rw [←List.length_drop] at h; exact h)⟩ ⟨rfl,rfl,rfl,rfl,rfl,trivial⟩ (by show (hrest (acc all ls k)).length+(ls.getD k []).length-64 * (j+1)<(hrest (acc all ls k)).length+(ls.getD k []).length-64 * j; omega))))))
  obtain ⟨he1,he2⟩:=FS (acc all ls k) (ls.getD k []) j (by omega) (by omega)
  have H13:Ke T w w6 [.blk q [(aa (hst (acc all ls (k+1))).a),(aa (hst (acc all ls (k+1))).b),(aa (hst (acc all ls (k+1))).c),(aa (hst (acc all ls (k+1))).d),(aa (hst (acc all ls (k+1))).e),(aa (hst (acc all ls (k+1))).f),(aa (hst (acc all ls (k+1))).g),(aa (hst (acc all ls (k+1))).h),v,(vN (acc all ls (k+1)).length)] 325,.row v 5 1 (hrest (acc all ls (k+1))).length (Kg vU8 (hrest (acc all ls (k+1))))]:=by have h:=H6; rw [he1,he2,← @Kj _ (acc all ls k) (ls.getD k [])] at h; exact h
  exact bc<|an<|an<|aS<|aE<|ao<|aG<|wo (aU (b:=1) O O (by omega)<|wm O<|aY<|aX (k+1,v) ⟨(by omega),H13⟩ ⟨rfl,rfl,rfl,rfl,trivial⟩ (by show ls.length-(k+1)<ls.length-k; omega))
 exact bc<|an<|an<|aS<|ao<|ws<|wa O<|wn<|aC<|aD (.tmp O .nil) (⟨_,rfl,(by have hk:k=ls.length:=(by omega); subst hk; have h:=H1; rw [vW] at h; exact h)⟩)
theorem qB (q:Nat) (v:Value) (all:List UInt8) (w:World) (hQ:cellsAt w q [(aa (hst all).a),(aa (hst all).b),(aa (hst all).c),(aa (hst all).d),(aa (hst all).e),(aa (hst all).f),(aa (hst all).g),(aa (hst all).h),v,(vN all.length)]) (hV:Arr w v 1 (hrest all).length (Kg vU8 (hrest all))) (_hb:all.length<2^40) :
  Calls Kf 195 #[(ptr q 0)] w (fun e w'=>e=.returned (str (sha all))∧Fr [] w w'):=by
 refine enter Tryz.func195 O O ?_
 have H0:=(((aL w []).oldB hQ).oldA hV)
 have hr0:=gi all
 have hp0:gg all.length=(119-all.length%64)%64:=rfl
 refine ws<|wa O<|wn<|ap<|ws<|wm O<|wo (bG Fa.Ct O O<|wn<|bF O O<|aA<|ao<|ws<|wm O<|wo (aJ O<|wo (ab O Fa.kB<|wo (aj O (H0.cellO (i:=0) O O) A114 O ?_))))
 have H2:=H0.nilRow 5 1
 refine wo (cx (f:=vU8) (l:=[]) (l':=(hrest all)) (i:=2) H2 A114 Fa.I5 O O O O (ck A114 (H2.arrO (i:=1) O)) (cV (fun _=>rfl)) (by omega) (by omega) (fun v1 w1 H1=>(wo (aW (cs:=[_]) H1 A114 Fa.I5 O O O O (by decide) (by decide) (fun b3 w3 H3=>(wo (cx (f:=vU8) (l:=([]++(hrest all))) (l':=[128]) (i:=2) H3 A114 Fa.I5 O O O O (ck A114 (H3.arrR (i:=3) O)) (cV (fun _=>rfl)) (by omega) (by omega) (fun v4 w4 H4=>(wa O<|wn<|ap<|aB<|bi (α:=Nat × Value) (fun (k,t)=>[(0,(ptr q 0)),(3,t)]) (fun (k,t) w'=>(k≤gg all.length)∧Ke [] w w' [Ent.bo q [(aa (hst all).a),(aa (hst all).b),(aa (hst all).c),(aa (hst all).d),(aa (hst all).e),(aa (hst all).f),(aa (hst all).g),(aa (hst all).h),v,(vN all.length)],Ent.ar v 1 (hrest all).length (Kg vU8 (hrest all)),.row t 5 1 ((0+(hrest all).length)+1+k) (Kg vU8 (hrest all++[128]++Ki k 0)),.row (.slice (some ⟨b3,0,none⟩) 1 1) 5 1 1 (Kg vU8 [128])]) (fun (k,t)=>gg all.length-k) (0,v4) ⟨(by omega),(by have h:=(show Ke [] w w4 [Ent.bo q [(aa (hst all).a),(aa (hst all).b),(aa (hst all).c),(aa (hst all).d),(aa (hst all).e),(aa (hst all).f),(aa (hst all).g),(aa (hst all).h),v,(vN all.length)],Ent.ar v 1 (hrest all).length (Kg vU8 (hrest all)),.row v4 5 1 ((0+(hrest all).length)+1) (Kg vU8 (([]++(hrest all))++[128])),.row (.slice (some ⟨b3,0,none⟩) 1 1) 5 1 1 (Kg vU8 [128])] from H4); simpa using h)⟩ ⟨rfl,rfl,trivial⟩ ?_)))))))))
 rintro ⟨k,t⟩ w5 ⟨hinv,H5⟩
 show WC _ _ _ _ _ [(0,(ptr q 0)),(3,t)] _
 refine ap<|ws<|wm O<|wo (bu A114 O (H5.arrR (i:=2) O)<|wo (vf (b:=64) O O (by omega)<|wo (bI (b:=56) O O<|wn (wE ((((0+(hrest all).length)+1+k)%64)≠56) (fun hb6 hc6=>?_) (fun hb6 hc6=>?_)))))
 ·
  exact aA<|ao<|aB<|aG<|wm O<|wo (aW (cs:=[_]) H5 A114 Fa.I5 O O O O (by decide) (by decide) (fun b7 w7 H7=>(wo (cx (f:=vU8) (l:=(hrest all++[128]++Ki k 0)) (l':=[0]) (i:=2) H7 A114 Fa.I5 O O O O (ck A114 (H7.arrR (i:=4) O)) (cV (fun _=>rfl)) (by omega) (by omega) (fun v8 w8 H8=>(wa O<|aY<|aE<|aX (k+1,v8) ⟨(by omega),(by have h:=(show Ke [] w w8 [Ent.bo q [(aa (hst all).a),(aa (hst all).b),(aa (hst all).c),(aa (hst all).d),(aa (hst all).e),(aa (hst all).f),(aa (hst all).g),(aa (hst all).h),v,(vN all.length)],Ent.ar v 1 (hrest all).length (Kg vU8 (hrest all)),.row v8 5 1 (((0+(hrest all).length)+1+k)+1) (Kg vU8 ((hrest all++[128]++Ki k 0)++[0])),.row (.slice (some ⟨b3,0,none⟩) 1 1) 5 1 1 (Kg vU8 [128])] from (H8.take 4)); rw [vc] at h; exact h)⟩ ⟨rfl,rfl,trivial⟩ (by show gg all.length-(k+1)<gg all.length-k; omega)))))))
 have hk:k=gg all.length:=(by omega)
 refine bc<|an<|an<|aS<|ao<|ws<|wm O<|wo (aJ O<|wo (ab O Fa.ug<|wo (aj O (H5.cellO (i:=0) O O) A3 O<|wo (dq (hs:=A3) (hd:=A154) O<|wo (kj (a:=8) O O<|wa O<|wn<|ap<|ws<|wa O<|wn<|aB<|bi (α:=Nat × Value) (fun (j,t)=>[(0,(ptr q 0)),(3,t),(4,(cB ((8:UInt64) * (Kn all.length)))),(5,(vI ((56:Int)-((8 * j:Nat):Int))))]) (fun (j,t) w'=>(j≤8)∧Ke [] w w' [Ent.bo q [(aa (hst all).a),(aa (hst all).b),(aa (hst all).c),(aa (hst all).d),(aa (hst all).e),(aa (hst all).f),(aa (hst all).g),(aa (hst all).h),v,(vN all.length)],Ent.ar v 1 (hrest all).length (Kg vU8 (hrest all)),.row t 5 1 ((hrest all).length+1+gg all.length+j) (Kg vU8 (hrest all++([128]++Ki (gg all.length) 0++fY all.length j))),.row (.slice (some ⟨b3,0,none⟩) 1 1) 5 1 1 (Kg vU8 [128])]) (fun (j,t)=>8-j) (0,t) ⟨(by omega),(by have h:=(show Ke [] w w5 [Ent.bo q [(aa (hst all).a),(aa (hst all).b),(aa (hst all).c),(aa (hst all).d),(aa (hst all).e),(aa (hst all).f),(aa (hst all).g),(aa (hst all).h),v,(vN all.length)],Ent.ar v 1 (hrest all).length (Kg vU8 (hrest all)),.row t 5 1 ((0+(hrest all).length)+1+k) (Kg vU8 (hrest all++[128]++Ki k 0)),.row (.slice (some ⟨b3,0,none⟩) 1 1) 5 1 1 (Kg vU8 [128])] from H5); rw [hk] at h; simpa [fY,Nat.add_assoc] using h)⟩ ⟨rfl,rfl,rfl,rfl,trivial⟩ ?_)))))
 rintro ⟨j,t⟩ w9 ⟨hinv,H9⟩
 show WC _ _ _ _ _ [(0,(ptr q 0)),(3,t),(4,(cB ((8:UInt64) * (Kn all.length)))),(5,(vI ((56:Int)-((8 * j:Nat):Int))))] _
 refine ap<|ws<|wm O<|wo (fe (b:=(0:Int)) O O<|wn (wE (((56:Int)-((8 * j:Nat):Int))≥(0:Int)) (fun hb10 hc10=>?_) (fun hb10 hc10=>?_)))
 ·
  rw [show ((56:Int)-((8 * j:Nat):Int))=((56-8 * j:Nat):Int) from by omega]
  exact aA<|ao<|ap<|aB<|aG<|wm O<|wm O<|wm O<|wo (es O O<|wo (dJ (hs:=A154) (hd:=A5) O<|wo (aW (cs:=[_]) H9 A114 Fa.I5 O O O O (by decide) (by decide) (fun b11 w11 H11=>(wo (cx (f:=vU8) (l:=(hrest all++([128]++Ki (gg all.length) 0++fY all.length j))) (l':=[(UInt8.ofNat (dN ((8:UInt64) * (Kn all.length)) (56-8 * j)).toNat)]) (i:=2) H11 A114 Fa.I5 O O O O (ck A114 (H11.arrR (i:=4) O)) (cV (fun _=>rfl)) (by omega) (by omega) (fun v12 w12 H12=>(wa O<|aY<|aE<|ao<|aG<|wm O<|wo (eq (a:=(((56-8 * j):Nat):Int)) (b:=((8:Nat):Int)) O O (by omega)<|wa O<|aY<|aX (j+1,v12) ⟨(by omega),(by have h:=(show Ke [] w w12 [Ent.bo q [(aa (hst all).a),(aa (hst all).b),(aa (hst all).c),(aa (hst all).d),(aa (hst all).e),(aa (hst all).f),(aa (hst all).g),(aa (hst all).h),v,(vN all.length)],Ent.ar v 1 (hrest all).length (Kg vU8 (hrest all)),.row v12 5 1 (((hrest all).length+1+gg all.length+j)+1) (Kg vU8 ((hrest all++([128]++Ki (gg all.length) 0++fY all.length j))++[(UInt8.ofNat (dN ((8:UInt64) * (Kn all.length)) (56-8 * j)).toNat)])),.row (.slice (some ⟨b3,0,none⟩) 1 1) 5 1 1 (Kg vU8 [128])] from (H12.take 4)); rw [vr] at h; exact h)⟩ ⟨rfl,rfl,rfl,(by show some (vI (((56-8 * j:Nat):Int)-8))=some (vI ((56:Int)-((8 * (j+1):Nat):Int))); congr 2; omega),trivial⟩ (by show 8-(j+1)<8-j; omega))))))))))
 refine bc<|an<|an<|aS<|ao<|ws<|wm O<|wo (aJ O<|wo (ab O Fa.ui<|wo (aM (vs:=[_,_,_,_,_,_,_,_]) O (H9.cellsO (i:=0) O O) A322 O Fa.ij O<|wo (bt H9 Fa.ij (fun b13 w13 H13=>(wo (bw (i:=4) H13 O O O O O Fa.ij (fun w14 H14=>(wn<|ap<|aB<|bi (α:=Nat × Value) (fun (j,t)=>[(3,t),(6,(ptr b13 0))]) (fun (j,t) w'=>(64 * j≤(hrest all++bZ all.length).length)∧Ke [] w w' [Ent.bo q [(aa (hst all).a),(aa (hst all).b),(aa (hst all).c),(aa (hst all).d),(aa (hst all).e),(aa (hst all).f),(aa (hst all).g),(aa (hst all).h),v,(vN all.length)],Ent.ar v 1 (hrest all).length (Kg vU8 (hrest all)),.row t 5 1 (cA (hrest all++bZ all.length) j).length (Kg vU8 (cA (hrest all++bZ all.length) j)),.row (.slice (some ⟨b3,0,none⟩) 1 1) 5 1 1 (Kg vU8 [128]),.blk b13 [(aa (bst (hst all) (hrest all++bZ all.length) j).a),(aa (bst (hst all) (hrest all++bZ all.length) j).b),(aa (bst (hst all) (hrest all++bZ all.length) j).c),(aa (bst (hst all) (hrest all++bZ all.length) j).d),(aa (bst (hst all) (hrest all++bZ all.length) j).e),(aa (bst (hst all) (hrest all++bZ all.length) j).f),(aa (bst (hst all) (hrest all++bZ all.length) j).g),(aa (bst (hst all) (hrest all++bZ all.length) j).h)] 322]) (fun (j,t)=>(hrest all++bZ all.length).length-64 * j) (0,t) ⟨(by omega),(by have hj:j=8:=(by omega); have h:=(show Ke [] w w14 [Ent.bo q [(aa (hst all).a),(aa (hst all).b),(aa (hst all).c),(aa (hst all).d),(aa (hst all).e),(aa (hst all).f),(aa (hst all).g),(aa (hst all).h),v,(vN all.length)],Ent.ar v 1 (hrest all).length (Kg vU8 (hrest all)),.row t 5 1 ((hrest all).length+1+gg all.length+j) (Kg vU8 (hrest all++([128]++Ki (gg all.length) 0++fY all.length j))),.row (.slice (some ⟨b3,0,none⟩) 1 1) 5 1 1 (Kg vU8 [128]),.blk b13 [(aa (hst all).a),(aa (hst all).b),(aa (hst all).c),(aa (hst all).d),(aa (hst all).e),(aa (hst all).f),(aa (hst all).g),(aa (hst all).h)] 322] from H14); rw [hj] at h; have e:(hrest all).length+1+gg all.length+8=(cA (hrest all++bZ all.length) 0).length:=(by simp [cA,bZ,iw]; omega); rw [e] at h; exact h)⟩ ⟨rfl,rfl,trivial⟩ ?_)))))))))
 rintro ⟨j,t⟩ w15 ⟨hinv,H15⟩
 show WC _ _ _ _ _ [(3,t),(6,(ptr b13 0))] _
 have hb0:=fD (hrest all++bZ all.length) j
 have hP:=FG all
 refine ap<|ws<|wm O<|wo (bu A114 O (H15.arrR (i:=2) O)<|wo (cm (b:=0) O O<|wn (wE ((cA (hrest all++bZ all.length) j).length>0) (fun hb16 hc16=>?_) (fun hb16 hc16=>?_))))
 ·
  refine aA<|ao<|ap<|aB<|bn 4 Fa.M H15 (oh (fun w1 H1=>aM (vs:=[_,_,_,_,_,_,_,_]) O (H1.cells (i:=4) O O) A322 O Fa.ij O zr)<|mh O<|oh (fun w1 H1=>hU (b:=64) A114 Fa.I5 O (H1.arrR (i:=2) O) O (by omega) zr)<|oh (fun w1 H1=>az (Kd 228) O ((tP (bst (hst all) (hrest all++bZ all.length) j) _ ((cA (hrest all++bZ all.length) j).take 64) _ (by rw [List.length_take]; omega) (((H1.arrR (i:=2) O)).cutHiM (f:=vU8) (l:=(cA (hrest all++bZ all.length) j)) (b:=64) (by omega))).mono (fun e w2 hq=>⟨_,hq.1,rfl,hq.2⟩)))  bD) (by kernel_rfl) ?_
  intro β18 w18 H18
  refine wo (bw (i:=4) H18 O O O O O Fa.ij (fun w19 H19=>(aY<|aE<|ao<|aG<|wm O<|wo (jL (a:=64) A114 Fa.I5 O (H19.arrR (i:=2) O) O (by omega) ?_))))
  have H20:=H19.cutLoM (f:=vU8) (l:=(cA (hrest all++bZ all.length) j)) (a:=64) (i:=2) O (by omega)
  exact wa O<|aY<|aX (j+1,(fT t 64 (cA (hrest all++bZ all.length) j).length 1)) ⟨(by omega),(by have h:=(show Ke [] w w19 [Ent.bo q [(aa (hst all).a),(aa (hst all).b),(aa (hst all).c),(aa (hst all).d),(aa (hst all).e),(aa (hst all).f),(aa (hst all).g),(aa (hst all).h),v,(vN all.length)],Ent.ar v 1 (hrest all).length (Kg vU8 (hrest all)),.row (fT t 64 (cA (hrest all++bZ all.length) j).length 1) 5 1 ((cA (hrest all++bZ all.length) j).length-64) (Kg vU8 ((cA (hrest all++bZ all.length) j).drop 64)),.row (.slice (some ⟨b3,0,none⟩) 1 1) 5 1 1 (Kg vU8 [128]),.blk b13 [(aa (eI (bst (hst all) (hrest all++bZ all.length) j) ((cA (hrest all++bZ all.length) j).take 64)).a),(aa (eI (bst (hst all) (hrest all++bZ all.length) j) ((cA (hrest all++bZ all.length) j).take 64)).b),(aa (eI (bst (hst all) (hrest all++bZ all.length) j) ((cA (hrest all++bZ all.length) j).take 64)).c),(aa (eI (bst (hst all) (hrest all++bZ all.length) j) ((cA (hrest all++bZ all.length) j).take 64)).d),(aa (eI (bst (hst all) (hrest all++bZ all.length) j) ((cA (hrest all++bZ all.length) j).take 64)).e),(aa (eI (bst (hst all) (hrest all++bZ all.length) j) ((cA (hrest all++bZ all.length) j).take 64)).f),(aa (eI (bst (hst all) (hrest all++bZ all.length) j) ((cA (hrest all++bZ all.length) j).take 64)).g),(aa (eI (bst (hst all) (hrest all++bZ all.length) j) ((cA (hrest all++bZ all.length) j).take 64)).h)] 322] from H20); rw [←List.length_drop] at h; exact h)⟩ ⟨rfl,rfl,trivial⟩ (by show (hrest all++bZ all.length).length-64 * (j+1)<(hrest all++bZ all.length).length-64 * j; omega)
 refine bc<|an<|an<|aS<|ao<|ws<|wa O ?_
 have H21:=H15.nilRow 5 1
 refine wn<|ap<|ws<|wo (aM (vs:=[_,_,_,_,_,_,_,_]) O (H21.cells (i:=4) O O) A322 O Fa.ij O<|wm O<|wn<|aB<|bi (α:=Nat × Value) (fun (k,t2)=>[(7,t2),(56,(.agg #[(aa (bst (hst all) (hrest all++bZ all.length) j).a),(aa (bst (hst all) (hrest all++bZ all.length) j).b),(aa (bst (hst all) (hrest all++bZ all.length) j).c),(aa (bst (hst all) (hrest all++bZ all.length) j).d),(aa (bst (hst all) (hrest all++bZ all.length) j).e),(aa (bst (hst all) (hrest all++bZ all.length) j).f),(aa (bst (hst all) (hrest all++bZ all.length) j).g),(aa (bst (hst all) (hrest all++bZ all.length) j).h)])),(57,(vN k))]) (fun (k,t2) w'=>(k≤8)∧Ke [] w w' [Ent.bo q [(aa (hst all).a),(aa (hst all).b),(aa (hst all).c),(aa (hst all).d),(aa (hst all).e),(aa (hst all).f),(aa (hst all).g),(aa (hst all).h),v,(vN all.length)],Ent.ar v 1 (hrest all).length (Kg vU8 (hrest all)),.row t 5 1 (cA (hrest all++bZ all.length) j).length (Kg vU8 (cA (hrest all++bZ all.length) j)),.row (.slice (some ⟨b3,0,none⟩) 1 1) 5 1 1 (Kg vU8 [128]),.blk b13 [(aa (bst (hst all) (hrest all++bZ all.length) j).a),(aa (bst (hst all) (hrest all++bZ all.length) j).b),(aa (bst (hst all) (hrest all++bZ all.length) j).c),(aa (bst (hst all) (hrest all++bZ all.length) j).d),(aa (bst (hst all) (hrest all++bZ all.length) j).e),(aa (bst (hst all) (hrest all++bZ all.length) j).f),(aa (bst (hst all) (hrest all++bZ all.length) j).g),(aa (bst (hst all) (hrest all++bZ all.length) j).h)] 322,.row t2 5 1 (4 * k) (Kg vU8 (jI (bst (hst all) (hrest all++bZ all.length) j) k))]) (fun (k,t2)=>8-k) (0,(.slice none 0 0)) ⟨(by omega),H21⟩ ⟨rfl,rfl,rfl,trivial⟩ ?_)
 rintro ⟨k,t2⟩ w22 ⟨hinv,H22⟩
 show WC _ _ _ _ _ [(7,t2),(56,(.agg #[(aa (bst (hst all) (hrest all++bZ all.length) j).a),(aa (bst (hst all) (hrest all++bZ all.length) j).b),(aa (bst (hst all) (hrest all++bZ all.length) j).c),(aa (bst (hst all) (hrest all++bZ all.length) j).d),(aa (bst (hst all) (hrest all++bZ all.length) j).e),(aa (bst (hst all) (hrest all++bZ all.length) j).f),(aa (bst (hst all) (hrest all++bZ all.length) j).g),(aa (bst (hst all) (hrest all++bZ all.length) j).h)])),(57,(vN k))] _
 refine ws<|wo (bm (b:=8) O O<|wn<|ap (wE (k<8) (fun hb23 hc23=>?_) (fun hb23 hc23=>?_)))
 ·
  exact aA<|ao<|ap<|aB<|ws<|wo (xK (cs:=_) A322 Fa.I22 A22 O O O (by omega) (aR (l:=(bst (hst all) (hrest all++bZ all.length) j).vals) aa 0 (by rw [nZ]; omega))<|wa O<|wn<|aG<|wm O<|wm O<|wo (cP (s:=24) O O<|wo (co (hs:=A22) (hd:=A5) O<|wm O<|wo (cP (s:=16) O O<|wo (co (hs:=A22) (hd:=A5) O<|wm O<|wo (cP (s:=8) O O<|wo (co (hs:=A22) (hd:=A5) O<|wm O<|wo (co (hs:=A22) (hd:=A5) O<|wo (aW (cs:=[_,_,_,_]) H22 A114 Fa.I5 O O O O (by decide) (by decide) (fun b24 w24 H24=>(wo (cx (f:=vU8) (l:=(jI (bst (hst all) (hrest all++bZ all.length) j) k)) (l':=[(UInt8.ofNat (cF ((bst (hst all) (hrest all++bZ all.length) j).vals.getD k 0) 24).toNat),(UInt8.ofNat (cF ((bst (hst all) (hrest all++bZ all.length) j).vals.getD k 0) 16).toNat),(UInt8.ofNat (cF ((bst (hst all) (hrest all++bZ all.length) j).vals.getD k 0) 8).toNat),(UInt8.ofNat ((bst (hst all) (hrest all++bZ all.length) j).vals.getD k 0).toNat)]) (i:=5) H24 A114 Fa.I5 O O O O (ck A114 (H24.arrR (i:=6) O)) (cV (fun _=>rfl)) (by omega) (by omega) (fun v25 w25 H25=>(wa O<|aY<|aE<|ao<|aG<|wo (aU (b:=1) O O (by omega)<|wm O<|aY<|aX (k+1,v25) ⟨(by omega),(H25.take 6)⟩ ⟨rfl,rfl,rfl,trivial⟩ (by show 8-(k+1)<8-k; omega))))))))))))))))
 exact bc<|an<|an<|aS<|ao<|ws<|wm O<|wo (cD (l:=(jI (bst (hst all) (hrest all++bZ all.length) j) k)) A114 A5 A9 O (H22.arrR (i:=5) O) O<|wa O<|wn<|aC<|aD (.tmp O .nil) (⟨(by have hk:k=8:=(by omega); subst hk; rw [Fi all j (by omega) (by rw [←Kj]; omega)]; rfl),H22.fr⟩))
theorem CZ (s:List UInt8) (w:World) (hs:s.length<2^40) :
  Calls Kf 227 #[(str s)] w (fun e w'=>e=.returned (str (sha s))∧Fr [] w w'):=by
 refine enter Tryz.func227 O O ?_
 have H0:=aL w []
 refine ws<|wa O<|wn<|ws<|wo (az (Kd 191) O ((sY _).mono (fun e w1 hq=>?_)))
 obtain ⟨q1,rfl,hq1⟩:=hq
 refine ⟨_,rfl,?_⟩
 have H1:=H0.splice [] [] [.blk q1 [(aa (hst ([]:List UInt8)).a),(aa (hst ([]:List UInt8)).b),(aa (hst ([]:List UInt8)).c),(aa (hst ([]:List UInt8)).d),(aa (hst ([]:List UInt8)).e),(aa (hst ([]:List UInt8)).f),(aa (hst ([]:List UInt8)).g),(aa (hst ([]:List UInt8)).h),(.slice none 0 0),(vN ([]:List UInt8).length)] 325,.row (.slice none 0 0) 5 1 (hrest ([]:List UInt8)).length (Kg vU8 (hrest ([]:List UInt8)))] O O hq1 (am ae (am ae aI))
 refine wa O<|wn<|ws<|wm O<|wm O<|wo (aW (cs:=[_]) H1 A59 Fa.I9 O O O O (by decide) (by decide) (fun b2 w2 H2=>(wo (az (Kd 193) O ((li q1 (.slice none 0 0) (.slice (some ⟨b2,0,none⟩) 1 1) ([]:List UInt8) ([s]) _ _ (H2.part [0,1] O O) (H2.stayR (I:=[0,1]) (k:=2) O O O) (by simpa using hs) (by simp)).mono (fun e w3 hq=>?_))))))
 obtain ⟨v3,rfl,hq3⟩:=hq
 refine ⟨_,rfl,?_⟩
 have H3:=H2.splice [0,1] [.blk q1 [(aa (hst (([]:List UInt8)++[s].flatten)).a),(aa (hst (([]:List UInt8)++[s].flatten)).b),(aa (hst (([]:List UInt8)++[s].flatten)).c),(aa (hst (([]:List UInt8)++[s].flatten)).d),(aa (hst (([]:List UInt8)++[s].flatten)).e),(aa (hst (([]:List UInt8)++[s].flatten)).f),(aa (hst (([]:List UInt8)++[s].flatten)).g),(aa (hst (([]:List UInt8)++[s].flatten)).h),v3,(vN (([]:List UInt8)++[s].flatten).length)] 325,.row v3 5 1 (hrest (([]:List UInt8)++[s].flatten)).length (Kg vU8 (hrest (([]:List UInt8)++[s].flatten)))] [] O O hq3 (am ae (am ae aI))
 exact wn<|ws<|wm O<|wo (cq H3 (Kd 195) O (qB q1 v3 (([]:List UInt8)++[s].flatten) _ (H3.cellsAt (i:=0) O) (H3.arrR (i:=1) O) (by simpa using hs)) fun w4 H4=>(wa O<|wn<|aC<|aD (.tmp O .nil) (⟨by simp [tup],H4.fr⟩)))
theorem FO (va vb:Value) (a b:List UInt32) (na nb:Nat) (w:World) (hVA:Arr w va 1 na (Kg aa a)) (hVB:Arr w vb 1 nb (Kg aa b)) (hs:na+nb≤1000) :
  Calls Kf 246 #[va,vb] w (fun e w'=> ∃v,e=.returned v∧Ke [] w w' [.row v 22 1 (na+nb) (Kg aa (Bw a b))]):=by
 refine enter Tryz.func246 O O ?_
 have H0:=aL w []
 obtain rfl:=hVA.mapLen
 obtain rfl:=hVB.mapLen
 refine ws<|wa O<|wn<|ws<|wm O<|wo (bu A73 O (H0.arr hVA)<|wm O<|wo (bu A73 O (H0.arr hVB)<|wo (aU O O (by omega)<|wo (dj (f:=aa) (c:=0) H0 A73 Fa.I22 O O (by omega) (by omega) (fun b1 w1 H1=>(wa O<|wn<|ap<|ws<|wa O<|wn<|aB<|bi (α:=Nat) (fun i=>[(0,va),(1,vb),(5,(.slice (some ⟨b1,0,none⟩) (a.length+b.length) (a.length+b.length))),(6,(vN i))]) (fun i w'=>(i≤a.length)∧Ke [] w w' [.row (.slice (some ⟨b1,0,none⟩) (a.length+b.length) (a.length+b.length)) 22 1 (a.length+b.length) (Kg aa (fA a b i))]) (fun i=>a.length-i) 0 ⟨(by omega),H1⟩ ⟨rfl,rfl,rfl,rfl,trivial⟩ ?_))))))
 rintro i w2 ⟨hinv,H2⟩
 show WC _ _ _ _ _ [(0,va),(1,vb),(5,(.slice (some ⟨b1,0,none⟩) (a.length+b.length) (a.length+b.length))),(6,(vN i))] _
 have hl1:=mm a b i
 refine ap<|ws<|wm O<|wm O<|wo (bu A73 O (H2.arr hVA)<|wo (bm O O<|wn (wE (i<a.length) (fun hb3 hc3=>?_) (fun hb3 hc3=>?_))))
 ·
  refine aA<|ao<|ap<|aB<|ws<|wa O<|wn<|ap<|ws<|wa O<|wn<|aB<|bi (α:=Nat) (fun j=>[(0,va),(1,vb),(5,(.slice (some ⟨b1,0,none⟩) (a.length+b.length) (a.length+b.length))),(6,(vN i)),(7,(cB (fX (a.getD i 0) b i (fA a b i) j).2)),(8,(vN j))]) (fun j w'=>(j≤b.length)∧Ke [] w w' [.row (.slice (some ⟨b1,0,none⟩) (a.length+b.length) (a.length+b.length)) 22 1 (a.length+b.length) (Kg aa (fX (a.getD i 0) b i (fA a b i) j).1)]) (fun j=>b.length-j) 0 ⟨(by omega),H2⟩ ⟨rfl,rfl,rfl,rfl,rfl,rfl,trivial⟩ ?_
  rintro j w4 ⟨hinv,H4⟩
  show WC _ _ _ _ _ [(0,va),(1,vb),(5,(.slice (some ⟨b1,0,none⟩) (a.length+b.length) (a.length+b.length))),(6,(vN i)),(7,(cB (fX (a.getD i 0) b i (fA a b i) j).2)),(8,(vN j))] _
  refine ap<|ws<|wm O<|wm O<|wo (bu A73 O (H4.arr hVB)<|wo (bm O O<|wn (wE (j<b.length) (fun hb5 hc5=>?_) (fun hb5 hc5=>?_))))
  ·
   refine aA<|ao<|ap<|aB<|ap<|bn 22 Fa.M H4 (mh O<|mh O<|oh (fun w1 H1=>aF A73 Fa.I22 O (H1.arr hVA) O (by omega) zr)<|oh (fun w1 H1=>aj O ((H1.arr hVA).at (aR aa 0 (aV (H1.arr hVA) (by omega)))) A22 O zr)<|oh (fun w1 H1=>cu (hs:=A22) (hd:=A154) O zr)<|mh O<|mh O<|oh (fun w1 H1=>aF A73 Fa.I22 O (H1.arr hVB) O (by omega) zr)<|oh (fun w1 H1=>aj O ((H1.arr hVB).at (aR aa 0 (aV (H1.arr hVB) (by omega)))) A22 O zr)<|oh (fun w1 H1=>cu (hs:=A22) (hd:=A154) O zr)<|oh (fun w1 H1=>kj O O zr)<|mh O<|mh O<|mh O<|oh (fun w1 H1=>aU O O (by omega) zr)<|oh (fun w1 H1=>aF A73 Fa.I22 O (H1.arrR (i:=0) O) O (by omega) zr)<|oh (fun w1 H1=>aj O ((H1.arrR (i:=0) O).at (aR aa 0 (aV (H1.arrR (i:=0) O) (by omega)))) A22 O zr)<|oh (fun w1 H1=>cu (hs:=A22) (hd:=A154) O zr)<|oh (fun w1 H1=>eH O O zr)<|mh O<|oh (fun w1 H1=>eH O O zr)<|ah O  bD) (by kernel_rfl) ?_
   intro β6 w6 H6
   exact wn<|ws<|wm O<|wm O<|wm O<|wo (aU O O (by omega)<|wm O<|wo (mG (b:=4294967296) O O (by decide)<|wo (ek (hs:=A154) (hd:=A22) O<|wo (aF A73 Fa.I22 O (H6.arrR (i:=0) O) O (by omega)<|wo (bN (i:=0) (f:=aa) (l:=(fX (a.getD i 0) b i (fA a b i) j).1) (c:=(Kl (((((Kn (a.getD i 0).toNat) * (Kn (b.getD j 0).toNat))+(Kn ((fX (a.getD i 0) b i (fA a b i) j).1.getD (i+j) 0).toNat))+(fX (a.getD i 0) b i (fA a b i) j).2)%(4294967296:UInt64)).toNat)) H6 O O O (by omega) O Fa.I22 (fun w7 H7=>(wn<|aG<|wm O<|wo (es (s:=32) O O<|wa O<|aY<|aE<|ao<|aG<|wm O<|wo (aU (b:=1) O O (by omega)<|wa O<|aY<|aX (j+1) ⟨(by omega),H7⟩ ⟨rfl,rfl,rfl,rfl,rfl,rfl,trivial⟩ (by omega))))))))))
  have hj:j=b.length:=(by omega)
  subst hj
  exact bc<|an<|an<|aS<|ao<|aG<|wm O<|wm O<|wm O<|wo (bu A73 O (H4.arr hVB)<|wo (aU O O (by omega)<|wm O<|wo (ek (hs:=A154) (hd:=A22) O<|wo (aF A73 Fa.I22 O (H4.arrR (i:=0) O) O (by omega)<|wo (bN (i:=0) (f:=aa) (l:=(fX (a.getD i 0) b i (fA a b i) b.length).1) (c:=(Kl (fX (a.getD i 0) b i (fA a b i) b.length).2.toNat)) H4 O O O (by omega) O Fa.I22 (fun w8 H8=>(aY<|aE<|ao<|aG<|wm O<|wo (aU (b:=1) O O (by omega)<|wa O<|aY<|aX (i+1) ⟨(by omega),H8⟩ ⟨rfl,rfl,rfl,rfl,trivial⟩ (by omega)))))))))
 exact bc<|an<|an<|aS<|ao<|ws<|wm O<|wa O<|wn<|aC<|aD (.tmp O .nil) (⟨_,rfl,(by have hi:i=a.length:=(by omega); subst hi; exact H2)⟩)
theorem Cq (va:Value) (a:List UInt32) (p:UInt32) (na n:Nat) (w:World) (hVA:Arr w va 1 na (Kg aa a)) (hl:n<na) (hs:na≤1000) :
  Calls Kf 247 #[va,(aa p),(vN n)] w (fun e w'=>e=.returned (.bool (iS a p n))∧Fr [] w w'):=by
 refine enter Tryz.func247 O O ?_
 have H0:=aL w []
 obtain rfl:=hVA.mapLen
 refine ws<|wa O<|wn<|ap<|ws<|wm O<|wo (bu A73 O (H0.arr hVA)<|wo (bE (b:=1) O O (by omega) (by omega)<|wa O<|wn<|aB<|bi (α:=Nat) (fun i=>[(0,va),(1,(aa p)),(2,(vN n)),(7,(vN i))]) (fun i w'=>(n≤i∧i<a.length∧∀q,i<q→q<a.length→a.getD q 0=0)∧Ke [] w w' []) (fun i=>i) (a.length-1) ⟨⟨by omega,by omega,fun q h1 h2=>by omega⟩,H0⟩ ⟨rfl,rfl,rfl,rfl,trivial⟩ ?_))
 rintro i w1 ⟨⟨hi1,hi2,hi3⟩,H1⟩
 show WC _ _ _ _ _ [(0,va),(1,(aa p)),(2,(vN n)),(7,(vN i))] _
 refine ap<|ws<|wm O<|wm O<|wo (cm O O<|wn (wE (i>n) (fun hb2 hc2=>?_) (fun hb2 hc2=>?_)))
 ·
  refine aA<|ao<|ap<|aB<|ws<|wm O<|wm O<|wo (aF A73 Fa.I22 O (H1.arr hVA) O (by omega)<|wo (aj O ((H1.arr hVA).at (aR aa 0 (aV (H1.arr hVA) (by omega)))) A22 O<|wo (eG (b:=0) O O<|wn (wE ((a.getD i 0)≠(0:UInt32)) (fun hb3 hc3=>?_) (fun hb3 hc3=>?_)))))
  ·
   exact ws<|wa O<|wn<|aC<|aZ<|aq<|aq<|aZ<|aq<|aD (.tmp O .nil) (⟨by rw [Cs (i:=i) (by omega) (by omega) hc3]; rfl,H1.fr⟩)
  exact aA<|aE<|ao<|aG<|wm O<|wo (bE (b:=1) O O (by omega) (by omega)<|wa O<|aY<|aX (i-1) ⟨⟨by omega,by omega,fun q h1 h2=>(by rcases Nat.lt_or_ge i q with h | h; exact hi3 q h h2; rw [show q=i by omega]; exact Decidable.not_not.mp hc3)⟩,H1⟩ ⟨rfl,rfl,rfl,rfl,trivial⟩ (by omega))
 have hz:=vT a (n+1) (a.length-(n+1)) (fun q h1 h2 h3=>hi3 q (by omega) h3)
 refine bc<|an<|an<|aS<|ao<|ap<|ws<|wm O<|wo (bu A73 O (H1.arr hVA)<|wm O<|wo (dH O O<|wm O<|bL O O O (decide_eq_false (by omega)) O (au O<|bL O O O (decide_eq_false (by omega)) O (au O<|bL O O O (decide_eq_false (by omega)) O (aF A73 Fa.I22 O (H1.arr hVA) O (by omega)<|bL O O O (decide_eq_false (by omega)) O (aj O ((H1.arr hVA).at (aR aa 0 (aV (H1.arr hVA) (by omega)))) A22 O<|bL O O O (decide_eq_false (by omega)) O (au O<|bL O O O (decide_eq_false (by omega)) O (eG O O<|wo (aN O (decide_eq_false (by omega)) O<|wn (wE ((a.getD n 0)≠p) (fun hb4 hc4=>?_) (fun hb4 hc4=>?_)))))))))))
 ·
  exact ws<|wm O<|wo (bu A73 O (H1.arr hVA)<|wm O<|wo (cm O O<|wm O<|bL O O O (decide_eq_true (by omega)) O (au O<|bL O O O (decide_eq_true (by omega)) O (au O<|bL O O O (decide_eq_true (by omega)) O (aF A73 Fa.I22 O (H1.arr hVA) O (by omega)<|bL O O O (decide_eq_true (by omega)) O (aj O ((H1.arr hVA).at (aR aa 0 (aV (H1.arr hVA) (by omega)))) A22 O<|bL O O O (decide_eq_true (by omega)) O (au O<|bL O O O (decide_eq_true (by omega)) O (cI O O<|wo (aQ O (decide_eq_true (by omega)) O<|wa O<|wn<|aC<|aq<|aD (.tmp O .nil) (⟨by rw [Cr hz (by omega) hc4]; rfl,H1.fr⟩))))))))))
 have hn0:=Decidable.not_not.mp hc4
 refine aA<|ao<|ap<|ws<|wa O<|wn<|aB<|bi (α:=Nat) (fun k=>[(0,va),(2,(vN n)),(8,(vN k))]) (fun k w'=>(k≤n∧∀q,q<k→a.getD q 0=0)∧Ke [] w w' []) (fun k=>n-k) 0 ⟨⟨Kk _,fun q h=>by omega⟩,H1⟩ ⟨rfl,rfl,rfl,trivial⟩ ?_
 rintro k w5 ⟨⟨hk1,hk2⟩,H5⟩
 show WC _ _ _ _ _ [(0,va),(2,(vN n)),(8,(vN k))] _
 refine ap<|ws<|wm O<|wm O<|wo (bm O O<|wn (wE (k<n) (fun hb6 hc6=>?_) (fun hb6 hc6=>?_)))
 ·
  refine aA<|ao<|ap<|aB<|ws<|wm O<|wm O<|wo (aF A73 Fa.I22 O (H5.arr hVA) O (by omega)<|wo (aj O ((H5.arr hVA).at (aR aa 0 (aV (H5.arr hVA) (by omega)))) A22 O<|wo (eG (b:=0) O O<|wn (wE ((a.getD k 0)≠(0:UInt32)) (fun hb7 hc7=>?_) (fun hb7 hc7=>?_)))))
  ·
   exact ws<|wa O<|wn<|aC<|aZ<|aq<|aq<|aZ<|aq<|aD (.tmp O .nil) (⟨by rw [tX hz (by omega) hn0,tT a 0 n k (by omega) (by omega) (by omega) hc7]; rfl,H5.fr⟩)
  exact aA<|aE<|ao<|aG<|wm O<|wo (aU (b:=1) O O (by omega)<|wa O<|aY<|aX (k+1) ⟨⟨by omega,fun q h1=>(by rcases Nat.lt_or_ge q k with h | h; exact hk2 q h; rw [show q=k by omega]; exact Decidable.not_not.mp hc7)⟩,H5⟩ ⟨rfl,rfl,rfl,trivial⟩ (by omega))
 exact bc<|an<|an<|aS<|ao<|ws<|wa O<|wn<|aC<|aD (.tmp O .nil) (⟨by rw [tX hz (by omega) hn0,vT a 0 n (fun q _ h1 _=>hk2 q (by omega))]; rfl,H5.fr⟩)
theorem Dq (p:UInt32) (n:Nat) (w:World) (hn:2≤n∧n≤3) :
  Calls Kf 230 #[(aa p),(vN n)] w (fun e w'=>e=.returned (aa (wu p n))∧Fr [] w w'):=by
 refine enter Tryz.func230 O O ?_
 have H0:=aL w []
 refine ws<|wa O<|wn<|ws<|wa O<|wn<|ap<|ws<|wa O<|wn<|aB<|bi (α:=Nat) (fun j=>[(0,(aa p)),(1,(vN n)),(5,(cB (du p n j))),(6,(vI ((36:Int)-(j:Int))))]) (fun j w'=>(j≤37)∧Ke [] w w' []) (fun j=>37-j) 0 ⟨(by omega),H0⟩ ⟨rfl,rfl,rfl,rfl,trivial⟩ ?_
 rintro j w1 ⟨hinv,H1⟩
 show WC _ _ _ _ _ [(0,(aa p)),(1,(vN n)),(5,(cB (du p n j))),(6,(vI ((36:Int)-(j:Int))))] _
 refine ap<|ws<|wm O<|wo (fe (b:=(0:Int)) O O<|wn (wE (((36:Int)-(j:Int))≥(0:Int)) (fun hb2 hc2=>?_) (fun hb2 hc2=>?_)))
 ·
  rw [show ((36:Int)-(j:Int))=((36-j:Nat):Int) from by omega]
  refine aA<|ao<|ap<|aB<|ws<|wm O<|wm O<|wo (dq (hs:=A3) (hd:=A265) O<|wo (kh (a:=1) O O<|wo (eH O O<|wa O<|wn<|ws<|wm O<|wo (mG (b:=4294967296) O O (by decide)<|wo (ek (hs:=A154) (hd:=A22) O<|wm O<|wo (es (s:=32) O O<|wo (ek (hs:=A154) (hd:=A22) O<|wo (aW (cs:=[_,_]) H1 A73 Fa.I22 O O O O (by decide) (by decide) (fun b3 w3 H3=>(wa O<|wn<|ws<|wm O<|wa O<|wn<|ap<|ws<|wa O<|wn<|aB ?_))))))))))
  have H4:=H3.freeze (i:=0) O
  have H5:=H4.dup (i:=0) O
  refine bi (α:=Nat × Value) (fun (k,v)=>[(0,(aa p)),(1,(vN n)),(5,(cB (du p n j))),(6,(vN (36-j))),(7,(cB ((du p n j)+(dG 1 (Kn (36-j)).toNat)))),(8,(.slice (some ⟨b3,0,none⟩) 2 2)),(9,v),(10,(vN (k+1)))]) (fun (k,v) w'=>(k+1≤n)∧Ke [] w w' [Ent.ar (.slice (some ⟨b3,0,none⟩) 2 2) 1 2 (Kg aa [(Kl (((du p n j)+(dG 1 (Kn (36-j)).toNat))%(4294967296:UInt64)).toNat),(Kl (dN ((du p n j)+(dG 1 (Kn (36-j)).toNat)) 32).toNat)]),Ent.ar v 1 (2 * (k+1)) (Kg aa (mB (oG (lw (du p n j) j)) k))]) (fun (k,v)=>n-k) (0,(.slice (some ⟨b3,0,none⟩) 2 2)) ⟨(by omega),H5⟩ ⟨rfl,rfl,rfl,rfl,rfl,rfl,rfl,rfl,trivial⟩ ?_
  rintro ⟨k,v⟩ w6 ⟨hinv,H6⟩
  show WC _ _ _ _ _ [(0,(aa p)),(1,(vN n)),(5,(cB (du p n j))),(6,(vN (36-j))),(7,(cB ((du p n j)+(dG 1 (Kn (36-j)).toNat)))),(8,(.slice (some ⟨b3,0,none⟩) 2 2)),(9,v),(10,(vN (k+1)))] _
  refine ap<|ws<|wm O<|wm O<|wo (bm O O<|wn (wE ((k+1)<n) (fun hb7 hc7=>?_) (fun hb7 hc7=>?_)))
  ·
   refine aA<|ao<|ap<|aB<|aG<|wm O<|wm O<|wo (az (Kd 246) O ((FO _ _ (mB (oG (lw (du p n j) j)) k) ([(Kl (((du p n j)+(dG 1 (Kn (36-j)).toNat))%(4294967296:UInt64)).toNat),(Kl (dN ((du p n j)+(dG 1 (Kn (36-j)).toNat)) 32).toNat)]) _ _ _ (H6.arrO (i:=1) O) (H6.arrO (i:=0) O) (by omega)).mono (fun e w8 hq=>?_)))
   obtain ⟨v8,rfl,hq8⟩:=hq
   refine ⟨_,rfl,?_⟩
   have H8:=H6.splice [] [] [.row v8 22 1 ((2 * (k+1))+2) (Kg aa (Bw (mB (oG (lw (du p n j) j)) k) [(Kl (((du p n j)+(dG 1 (Kn (36-j)).toNat))%(4294967296:UInt64)).toNat),(Kl (dN ((du p n j)+(dG 1 (Kn (36-j)).toNat)) 32).toNat)]))] O O hq8 (am ae aI)
   refine wa O<|aY<|aE<|ao<|aG<|wm O<|wo (aU (b:=1) O O (by omega)<|wa O<|aY ?_)
   have H9:=H8.freeze (i:=2) O
   exact aX (k+1,v8) ⟨(by omega),(H9.sel [0,2] O O)⟩ ⟨rfl,rfl,rfl,rfl,rfl,rfl,rfl,rfl,trivial⟩ (by show n-(k+1)<n-k; omega)
  have hk:k=n-1:=(by omega)
  subst hk
  refine bc<|an<|an<|aS<|ao<|ws<|wm O<|wm O<|wm O<|wo (cq H6 (Kd 247) O (Cq _ (mB (oG (lw (du p n j) j)) (n-1)) p _ n _ (H6.arrO (i:=1) O) (by omega) (by omega)) fun w10 H10=>(wo (cQ O<|wn (wC (!(iS (mB (oG (lw (du p n j) j)) (n-1)) p n)) (fun hb11=>?_) (fun hb11=>?_)))))
  ·
   have hn11:=(Bool.not_eq_true' _).mp hb11
   exact aG<|wm O<|wa O<|aY<|aE<|ao<|aG<|wm O<|wo (eq (a:=(((36-j):Nat):Int)) (b:=((1:Nat):Int)) O O (by omega)<|wa O<|aY<|aX (j+1) ⟨(by omega),(H10.take 0)⟩ ⟨rfl,rfl,(by show some (cB (lw (du p n j) j))=some (cB (du p n (j+1))); rw [du,if_pos hb11]),(by show some (vI (((36-j:Nat):Int)-1))=some (vI ((36:Int)-((j+1:Nat):Int))); congr 2; omega),trivial⟩ (by omega))
  have hn11:=(Bool.not_eq_false' _).mp hb11
  exact aA<|aE<|ao<|aG<|wm O<|wo (eq (a:=(((36-j):Nat):Int)) (b:=((1:Nat):Int)) O O (by omega)<|wa O<|aY<|aX (j+1) ⟨(by omega),(H10.take 0)⟩ ⟨rfl,rfl,(by show some (cB (du p n j))=some (cB (du p n (j+1))); rw [du,if_neg (by rw [hb11]; decide)]),(by show some (vI (((36-j:Nat):Int)-1))=some (vI ((36:Int)-((j+1:Nat):Int))); congr 2; omega),trivial⟩ (by omega))
 exact bc<|an<|an<|aS<|ao<|ws<|wm O<|wo (mG (b:=4294967296) O O (by decide)<|wo (ek (hs:=A154) (hd:=A22) O<|wa O<|wn<|aC<|aD (.tmp O .nil) (⟨by have hj:j=37:=(by omega); subst hj; rfl,H1.fr⟩)))
theorem zm (n:Nat) (w:World) (hn:n≤64) :
  Calls Kf 229 #[(vN n)] w (fun e w'=> ∃v,e=.returned v∧Ke [] w w' [.row v 22 1 n (Kg aa (prs n))]):=by
 refine enter Tryz.func229 O O ?_
 have H0:=aL w []
 refine ws<|wa O<|wn<|ws<|wa O ?_
 have H1:=H0.nilRow 22 1
 refine wn<|ap<|ws<|wa O<|wn<|aB<|bi (α:=Nat × Value) (fun (j,v)=>[(0,(vN n)),(3,v),(4,(aa (2+Kl j)))]) (fun (j,v) w'=>(j≤310∧(prL j).length≤n)∧Ke [] w w' [.row v 22 1 (prL j).length (Kg aa (prL j))]) (fun (j,v)=>310-j) (0,(.slice none 0 0)) ⟨⟨by omega,Kk _⟩,H1⟩ ⟨rfl,rfl,rfl,trivial⟩ ?_
 rintro ⟨j,v⟩ w2 ⟨⟨hj1,hj2⟩,H2⟩
 show WC _ _ _ _ _ [(0,(vN n)),(3,v),(4,(aa (2+Kl j)))] _
 refine ap<|ws<|wm O<|wo (bu A73 O (H2.arrR (i:=0) O)<|wm O<|wo (bm O O<|wn (wE ((prL j).length<n) (fun hb3 hc3=>?_) (fun hb3 hc3=>?_))))
 ·
  have hlt:=FB j (by omega)
  refine aA<|ao<|ap<|aB<|ws<|wa O<|wn<|ap<|ws<|wa O<|wn<|aB<|bi (α:=Nat) (fun k=>[(0,(vN n)),(3,v),(4,(aa (2+Kl j))),(5,(.bool (pL (prL j) (2+Kl j) k))),(6,(vN k))]) (fun k w'=>(k≤(prL j).length)∧Ke [] w w' [.row v 22 1 (prL j).length (Kg aa (prL j))]) (fun k=>(prL j).length-k) 0 ⟨(by omega),H2⟩ ⟨rfl,rfl,rfl,rfl,rfl,trivial⟩ ?_
  rintro k w4 ⟨hinv,H4⟩
  show WC _ _ _ _ _ [(0,(vN n)),(3,v),(4,(aa (2+Kl j))),(5,(.bool (pL (prL j) (2+Kl j) k))),(6,(vN k))] _
  refine ap<|ws<|wm O<|wm O<|wo (bu A73 O (H4.arrR (i:=0) O)<|wo (bm O O<|wn (wE (k<(prL j).length) (fun hb5 hc5=>?_) (fun hb5 hc5=>?_))))
  ·
   refine aA<|ao<|ap<|aB<|aG<|wm O<|wm O (wV 20 (pL (prL j) (2+Kl j) k) (fun hb6=>?_) (fun hb6=>?_))
   ·
    exact wY hb6 (au O<|wY hb6 (au O<|wY hb6 (au O<|wY hb6 (aF A73 Fa.I22 O (H4.arrR (i:=0) O) O (by omega)<|wY hb6 (aj O ((H4.arrR (i:=0) O).at (aR aa 0 (aV (H4.arrR (i:=0) O) (by omega)))) A22 O<|wY hb6 (eQ O O (DD j (by omega) (by omega))<|wY hb6 (eG (b:=0) O O<|wo (aQ O hb6 O<|wa O<|aY<|aE<|ao<|aG<|wm O<|wo (aU (b:=1) O O (by omega)<|wa O<|aY<|aX (k+1) ⟨(by omega),H4⟩ ⟨rfl,rfl,rfl,(by rw [pL,hb6]; rfl),rfl,trivial⟩ (by omega))))))))))
   exact wN hb6<|wN hb6<|wN hb6<|wN hb6<|wN hb6<|wN hb6<|wN hb6<|wo (aN O hb6 O<|wa O<|aY<|aE<|ao<|aG<|wm O<|wo (aU (b:=1) O O (by omega)<|wa O<|aY<|aX (k+1) ⟨(by omega),H4⟩ ⟨rfl,rfl,rfl,(by rw [pL,hb6]; rfl),rfl,trivial⟩ (by omega)))
  have hk:k=(prL j).length:=(by omega)
  subst hk
  refine bc<|an<|an<|aS<|ao<|ws<|wm O<|wn (wC (pL (prL j) (2+Kl j) (prL j).length) (fun hb7=>?_) (fun hb7=>?_))
  ·
   exact aG<|wm O<|wm O<|wo (aW (cs:=[_]) H4 A73 Fa.I22 O O O O (by decide) (by decide) (fun b8 w8 H8=>(wo (cx (f:=aa) (l:=(prL j)) (l':=[(2+Kl j)]) (i:=0) H8 A73 Fa.I22 O O O O (ck A73 (H8.arrR (i:=1) O)) (cV (fun _=>rfl)) (by omega) (by omega) (fun v9 w9 H9=>(wa O<|aY<|aE<|ao<|aG<|wm O<|wo (bW (b:=1) O O<|wa O<|aY<|aX (j+1,v9) ⟨⟨by omega,by have:=uW j; omega⟩,(cM (i:=0) (f:=aa) (l':=prL (j+1)) (m':=(prL (j+1)).length) (H9.take 1) O (by rw [prL,if_pos hb7]) (by rw [prL,if_pos hb7,Kj]; rfl))⟩ ⟨rfl,rfl,(congrArg (fun x=>some (aa x)) (rU j)),trivial⟩ (by show 310-(j+1)<310-j; omega))))))))
  exact aA<|aE<|ao<|aG<|wm O<|wo (bW (b:=1) O O<|wa O<|aY<|aX (j+1,v) ⟨⟨by omega,by have:=uW j; omega⟩,(cM (i:=0) (f:=aa) (l':=prL (j+1)) (m':=(prL (j+1)).length) H4 O (by rw [prL,if_neg (by rw [hb7]; decide)]) (by rw [prL,if_neg (by rw [hb7]; decide)]))⟩ ⟨rfl,rfl,(congrArg (fun x=>some (aa x)) (rU j)),trivial⟩ (by show 310-(j+1)<310-j; omega))
 exact bc<|an<|an<|aS<|ao<|ws<|wm O<|wa O<|wn<|aC<|aD (.tmp O .nil) (⟨_,rfl,cM (i:=0) (f:=aa) H2 O (DE j hj1 (by omega)) (by omega)⟩)
theorem sm (m n:Nat) (w:World) (hm:m≤64) (hn:2≤n∧n≤3) :
  Calls Kf 202 #[(vN m),(vN n)] w (fun e w'=> ∃v,e=.returned v∧Ke [] w w' [.row v 22 1 m (Kg aa (jG m n m))]):=by
 refine enter Tryz.func202 O O ?_
 have H0:=aL w []
 refine ws<|wa O<|wn<|ws<|wm O<|wo (az (Kd 229) O ((zm m _ (by omega)).mono (fun e w1 hq=>?_)))
 obtain ⟨v1,rfl,hq1⟩:=hq
 refine ⟨_,rfl,?_⟩
 have H1:=H0.splice [] [] [.row v1 22 1 m (Kg aa (prs m))] O O hq1 (am ae aI)
 refine wa O<|wn<|ws<|wa O ?_
 have H2:=H1.nilRow 22 1
 refine wn<|ap<|ws<|wa O<|wn<|aB<|bi (α:=Nat × Value) (fun (k,v)=>[(0,(vN m)),(1,(vN n)),(5,v1),(6,v),(7,(vN k))]) (fun (k,v) w'=>(k≤m)∧Ke [] w w' [.row v1 22 1 m (Kg aa (prs m)),.row v 22 1 k (Kg aa (jG m n k))]) (fun (k,v)=>m-k) (0,(.slice none 0 0)) ⟨(by omega),H2⟩ ⟨rfl,rfl,rfl,rfl,rfl,trivial⟩ ?_
 rintro ⟨k,v⟩ w3 ⟨hinv,H3⟩
 show WC _ _ _ _ _ [(0,(vN m)),(1,(vN n)),(5,v1),(6,v),(7,(vN k))] _
 refine ap<|ws<|wm O<|wm O<|wo (bm O O<|wn (wE (k<m) (fun hb4 hc4=>?_) (fun hb4 hc4=>?_)))
 ·
  exact aA<|ao<|ap<|aB<|aG<|wm O<|wm O<|wm O<|wo (aF A73 Fa.I22 O (H3.arrR (i:=0) O) O (by omega)<|wo (aj O ((H3.arrR (i:=0) O).at (aR aa 0 (aV (H3.arrR (i:=0) O) (by omega)))) A22 O<|wm O<|wo (cq H3 (Kd 230) O (Dq ((prs m).getD k 0) n _ (by omega)) fun w5 H5=>(wo (aW (cs:=[_]) H5 A73 Fa.I22 O O O O (by decide) (by decide) (fun b6 w6 H6=>(wo (cx (f:=aa) (l:=(jG m n k)) (l':=[(wu ((prs m).getD k 0) n)]) (i:=1) H6 A73 Fa.I22 O O O O (ck A73 (H6.arrR (i:=2) O)) (cV (fun _=>rfl)) (by omega) (by omega) (fun v7 w7 H7=>(wa O<|aY<|aE<|ao<|aG<|wm O<|wo (aU (b:=1) O O (by omega)<|wa O<|aY<|aX (k+1,v7) ⟨(by omega),(H7.take 2)⟩ ⟨rfl,rfl,rfl,rfl,rfl,trivial⟩ (by show m-(k+1)<m-k; omega))))))))))))
 exact bc<|an<|an<|aS<|ao<|ws<|wm O<|wa O<|wn<|aC<|aD (.tmp O .nil) (⟨_,rfl,(by have hk:k=m:=(by omega); subst hk; exact H3.sel [1] O O)⟩)
theorem zf (w:World):Calls Kf 202 #[vN 8,vN 2] w (fun e w'=> ∃v,e=.returned v∧Ke [] w w' [.row v 22 1 8 (Kg aa dK.vals)]) :=
 (sm 8 2 w (by decide) (by decide)).mono fun e w' ⟨v,h1,h2⟩=>⟨v,h1,by rw [←Fu]; exact h2⟩
theorem xx (w:World):Calls Kf 202 #[vN 64,vN 3] w (fun e w'=> ∃v,e=.returned v∧Ke [] w w' [.row v 22 1 64 (Kg aa kT)]) :=
 (sm 64 3 w (by decide) (by decide)).mono fun e w' ⟨v,h1,h2⟩=>⟨v,h1,by rw [←Dp]; exact h2⟩
theorem fw (x:UInt32) (m:Nat) (hm:m≤32) (w:World) :
  Calls Kf 232 #[(aa x),(cB (Kn m))] w (fun e w'=>e=.returned (aa (rot x m))∧Fr [] w w'):=by
 refine enter Tryz.func232 O O ?_
 have H0:=aL w []
 exact ws<|wa O<|wn<|ws<|wm O<|wm O<|wo (cP O O<|wm O<|wm O<|wo (mF (a:=32) O O<|wo (fj O O<|wo (fQ O O<|wa O<|wn<|aC<|aD (.tmp O .nil) (⟨by rw [Fe hm,mY (by omega)]; rfl,H0.fr⟩)))))
theorem Aa (s:List UInt8) (w:World) (hs:s.length<2^40) :
  Calls Kf 203 #[(str s)] w (fun e w'=> ∃v,e=.returned v∧Ke [] w w' [.row v 5 1 (s++bZ s.length).length (Kg vU8 (s++bZ s.length))]):=by
 refine enter Tryz.func203 O O ?_
 have H0:=aL w []
 have hp0:gg s.length=(119-s.length%64)%64:=rfl
 refine ws<|wa O<|wn<|ws<|wm O<|wo (kG H0 A9 A5 A114 O (by omega) (fun v1 w1 H1=>(wo (aW (cs:=[_]) H1 A114 Fa.I5 O O O O (by decide) (by decide) (fun b2 w2 H2=>(wo (cx (f:=vU8) (l:=s) (l':=[128]) (i:=0) H2 A114 Fa.I5 O O O O (ck A114 (H2.arrR (i:=1) O)) (cV (fun _=>rfl)) (by omega) (by omega) (fun v3 w3 H3=>(wa O<|wn<|ap<|aB<|bi (α:=Nat × Value) (fun (k,v)=>[(0,(str s)),(3,v)]) (fun (k,v) w'=>(k≤gg s.length)∧Ke [] w w' [.row v 5 1 (s.length+1+k) (Kg vU8 (s++[128]++Ki k 0)),.row (.slice (some ⟨b2,0,none⟩) 1 1) 5 1 1 (Kg vU8 [128])]) (fun (k,v)=>gg s.length-k) (0,v3) ⟨(by omega),(Own.rowEq (i:=0) (f:=vU8) H3 O (by simp))⟩ ⟨rfl,rfl,trivial⟩ ?_)))))))))
 rintro ⟨k,v⟩ w4 ⟨hinv,H4⟩
 show WC _ _ _ _ _ [(0,(str s)),(3,v)] _
 refine ap<|ws<|wm O<|wo (bu A114 O (H4.arrR (i:=0) O)<|wo (vf (b:=64) O O (by omega)<|wo (bI (b:=56) O O<|wn (wE (((s.length+1+k)%64)≠56) (fun hb5 hc5=>?_) (fun hb5 hc5=>?_)))))
 ·
  exact aA<|ao<|aB<|aG<|wm O<|wo (aW (cs:=[_]) H4 A114 Fa.I5 O O O O (by decide) (by decide) (fun b6 w6 H6=>(wo (cx (f:=vU8) (l:=(s++[128]++Ki k 0)) (l':=[0]) (i:=0) H6 A114 Fa.I5 O O O O (ck A114 (H6.arrR (i:=2) O)) (cV (fun _=>rfl)) (by omega) (by omega) (fun v7 w7 H7=>(wa O<|aY<|aE<|aX (k+1,v7) ⟨(by omega),(Own.rowEq (i:=0) (f:=vU8) (H7.take 2) O (BZ s k))⟩ ⟨rfl,rfl,trivial⟩ (by show gg s.length-(k+1)<gg s.length-k; omega)))))))
 have hk:k=gg s.length:=(by omega)
 refine bc<|an<|an<|aS<|ao<|ws<|wm O<|wo (bH A9 O<|wo (dq (hs:=A3) (hd:=A154) O<|wo (kj (a:=8) O O<|wa O<|wn<|ap<|ws<|wa O<|wn<|aB<|bi (α:=Nat × Value) (fun (j,v)=>[(0,(str s)),(3,v),(4,(cB ((8:UInt64) * (Kn s.length)))),(5,(vI ((56:Int)-((8 * j:Nat):Int))))]) (fun (j,v) w'=>(j≤8)∧Ke [] w w' [.row v 5 1 (s.length+1+gg s.length+j) (Kg vU8 (s++([128]++Ki (gg s.length) 0++fY s.length j))),.row (.slice (some ⟨b2,0,none⟩) 1 1) 5 1 1 (Kg vU8 [128])]) (fun (j,v)=>8-j) (0,v) ⟨(by omega),(cM (i:=0) (f:=vU8) H4 O (by rw [hk]; simp [fY]) (by omega))⟩ ⟨rfl,rfl,rfl,rfl,trivial⟩ ?_)))
 rintro ⟨j,v⟩ w8 ⟨hinv,H8⟩
 show WC _ _ _ _ _ [(0,(str s)),(3,v),(4,(cB ((8:UInt64) * (Kn s.length)))),(5,(vI ((56:Int)-((8 * j:Nat):Int))))] _
 refine ap<|ws<|wm O<|wo (fe (b:=(0:Int)) O O<|wn (wE (((56:Int)-((8 * j:Nat):Int))≥(0:Int)) (fun hb9 hc9=>?_) (fun hb9 hc9=>?_)))
 ·
  rw [show ((56:Int)-((8 * j:Nat):Int))=((56-8 * j:Nat):Int) from by omega]
  exact aA<|ao<|ap<|aB<|aG<|wm O<|wm O<|wm O<|wo (dq (hs:=A3) (hd:=A265) O<|wo (es O O<|wo (dJ (hs:=A154) (hd:=A5) O<|wo (aW (cs:=[_]) H8 A114 Fa.I5 O O O O (by decide) (by decide) (fun b10 w10 H10=>(wo (cx (f:=vU8) (l:=(s++([128]++Ki (gg s.length) 0++fY s.length j))) (l':=[(UInt8.ofNat (dN ((8:UInt64) * (Kn s.length)) (Kn (56-8 * j)).toNat).toNat)]) (i:=0) H10 A114 Fa.I5 O O O O (ck A114 (H10.arrR (i:=2) O)) (cV (fun _=>rfl)) (by omega) (by omega) (fun v11 w11 H11=>(wa O<|aY<|aE<|ao<|aG<|wm O<|wo (eq (a:=(((56-8 * j):Nat):Int)) (b:=((8:Nat):Int)) O O (by omega)<|wa O<|aY<|aX (j+1,v11) ⟨(by omega),(Own.rowEq (i:=0) (f:=vU8) (H11.take 2) O (BF s _ s.length j (by omega)))⟩ ⟨rfl,rfl,rfl,(by show some (vI (((56-8 * j:Nat):Int)-8))=some (vI ((56:Int)-((8 * (j+1):Nat):Int))); congr 2; omega),trivial⟩ (by show 8-(j+1)<8-j; omega)))))))))))
 exact bc<|an<|an<|aS<|ao<|ws<|wm O<|wa O<|wn<|aC<|aD (.tmp O .nil) (⟨_,rfl,cM (i:=0) (f:=vU8) (H8.sel [0] O O) O (by have hj:j=8:=(by omega); subst hj; rfl) (by simp [bZ,iw]; omega)⟩)
theorem za (v:Value) (b:List UInt8) (w:World) (_hl:b.length=64) (hA:Arr w v 1 64 (b.map vU8)) :
  Calls Kf 231 #[v] w (fun e w'=> ∃v,e=.returned v∧Ke [] w w' [.row v 22 1 64 (Kg aa (wl b 64))]):=by
 refine enter Tryz.func231 O O ?_
 have H0:=aL w []
 refine ws<|wa O<|wn<|ws<|wa O ?_
 have H1:=H0.nilRow 22 1
 refine wn<|ap<|ws<|wa O<|wn<|aB<|bi (α:=Nat × Value) (fun (j,q)=>[(0,v),(3,q),(4,(vN (4 * j)))]) (fun (j,q) w'=>(j≤16)∧Ke [] w w' [.row q 22 1 j (Kg aa (wl b j))]) (fun (j,q)=>16-j) (0,(.slice none 0 0)) ⟨(by omega),H1⟩ ⟨rfl,rfl,rfl,trivial⟩ ?_
 rintro ⟨j,q⟩ w2 ⟨hinv,H2⟩
 show WC _ _ _ _ _ [(0,v),(3,q),(4,(vN (4 * j)))] _
 refine ap<|ws<|wm O<|wo (bm (b:=64) O O<|wn (wE ((4 * j)<64) (fun hb3 hc3=>?_) (fun hb3 hc3=>?_)))
 ·
  refine aA<|ao<|ap<|aB<|bn 31 Fa.M H2 (mh O<|mh O<|mh O<|oh (fun w1 H1=>aF A114 Fa.I5 O (H1.arr hA) O (by omega) zr)<|oh (fun w1 H1=>aj O ((H1.arr hA).at (aR vU8 0 (aV (H1.arr hA) (by omega)))) A5 O zr)<|oh (fun w1 H1=>dm (hs:=A5) (hd:=A22) O zr)<|oh (fun w1 H1=>fj (s:=24) O O zr)<|mh O<|mh O<|oh (fun w1 H1=>aU (b:=1) O O (by omega) zr)<|oh (fun w1 H1=>aF A114 Fa.I5 O (H1.arr hA) O (by omega) zr)<|oh (fun w1 H1=>aj O ((H1.arr hA).at (aR vU8 0 (aV (H1.arr hA) (by omega)))) A5 O zr)<|oh (fun w1 H1=>dm (hs:=A5) (hd:=A22) O zr)<|oh (fun w1 H1=>fj (s:=16) O O zr)<|oh (fun w1 H1=>fQ O O zr)<|mh O<|mh O<|oh (fun w1 H1=>aU (b:=2) O O (by omega) zr)<|oh (fun w1 H1=>aF A114 Fa.I5 O (H1.arr hA) O (by omega) zr)<|oh (fun w1 H1=>aj O ((H1.arr hA).at (aR vU8 0 (aV (H1.arr hA) (by omega)))) A5 O zr)<|oh (fun w1 H1=>dm (hs:=A5) (hd:=A22) O zr)<|oh (fun w1 H1=>fj (s:=8) O O zr)<|oh (fun w1 H1=>fQ O O zr)<|mh O<|mh O<|oh (fun w1 H1=>aU (b:=3) O O (by omega) zr)<|oh (fun w1 H1=>aF A114 Fa.I5 O (H1.arr hA) O (by omega) zr)<|oh (fun w1 H1=>aj O ((H1.arr hA).at (aR vU8 0 (aV (H1.arr hA) (by omega)))) A5 O zr)<|oh (fun w1 H1=>dm (hs:=A5) (hd:=A22) O zr)<|oh (fun w1 H1=>fQ O O zr)<|HW.flt (mk:=fun bq=>.slice (some ⟨bq.1,0,none⟩) 1 1) (ent:=fun bq=>.row (.slice (some ⟨bq.1,0,none⟩) 1 1) _ _ _ _) O (fun w1 _=>aW (cs:=[_]) (aL w1 []) A73 Fa.I22 O O O O (by decide) (by decide) (fun bq w2 H2=>⟨(bq,undef),rfl,H2,ae⟩))  bD) (by kernel_rfl) ?_
  intro β4 w4 H4
  exact wo (cx (f:=aa) (l:=(wl b j)) (l':=[((((shlU32 (Kl (b.getD (4 * j) 0).toNat) 24) ||| (shlU32 (Kl (b.getD ((4 * j)+1) 0).toNat) 16)) ||| (shlU32 (Kl (b.getD ((4 * j)+2) 0).toNat) 8)) ||| (Kl (b.getD ((4 * j)+3) 0).toNat))]) (i:=0) H4 A73 Fa.I22 O O O O (ck A73 (H4.arrR (i:=1) O)) (cV (fun _=>rfl)) (by omega) (by omega) (fun v5 w5 H5=>(wa O<|aY<|aE<|ao<|aG<|wm O<|wo (aU (b:=4) O O (by omega)<|wa O<|aY<|aX (j+1,v5) ⟨(by omega),(Own.rowEq (i:=0) (f:=aa) (H5.take 1) O (Hd b (by omega)))⟩ ⟨rfl,rfl,rfl,trivial⟩ (by show 16-(j+1)<16-j; omega)))))
 refine bc<|an<|an<|aS<|ao<|ap<|ws<|wa O<|wn<|aB<|bi (α:=Nat × Value) (fun (t,q)=>[(3,q),(5,(vN t))]) (fun (t,q) w'=>(16≤t∧t≤64)∧Ke [] w w' [.row q 22 1 t (Kg aa (wl b t))]) (fun (t,q)=>64-t) (16,q) ⟨(by omega),(by have hj:j=16:=(by omega); subst hj; exact H2)⟩ ⟨rfl,rfl,trivial⟩ ?_
 rintro ⟨t,q⟩ w6 ⟨hinv,H6⟩
 show WC _ _ _ _ _ [(3,q),(5,(vN t))] _
 refine ap<|ws<|wm O<|wo (bm (b:=64) O O<|wn (wE (t<64) (fun hb7 hc7=>?_) (fun hb7 hc7=>?_)))
 ·
  refine aA<|ao<|ap<|aB<|ap<|bn 12 Fa.M H6 (mh O<|mh O<|oh (fun w1 H1=>bE (b:=15) O O (by omega) (by omega) zr)<|oh (fun w1 H1=>aF A73 Fa.I22 O (H1.arrR (i:=0) O) O (by omega) zr)<|oh (fun w1 H1=>aj O ((H1.arrR (i:=0) O).at (aR aa 0 (aV (H1.arrR (i:=0) O) (by omega)))) A22 O zr)<|mh O<|mh O<|oh (fun w1 H1=>bE (b:=2) O O (by omega) (by omega) zr)<|oh (fun w1 H1=>aF A73 Fa.I22 O (H1.arrR (i:=0) O) O (by omega) zr)<|oh (fun w1 H1=>aj O ((H1.arrR (i:=0) O).at (aR aa 0 (aV (H1.arrR (i:=0) O) (by omega)))) A22 O zr)<|ah O<|ah O  bD) (by kernel_rfl) ?_
  intro β8 w8 H8
  refine wn<|bn 31 Fa.M H8 (mh O<|mh O<|mh O<|oh (fun w1 H1=>bE (b:=16) O O (by omega) (by omega) zr)<|oh (fun w1 H1=>aF A73 Fa.I22 O (H1.arrR (i:=0) O) O (by omega) zr)<|oh (fun w1 H1=>aj O ((H1.arrR (i:=0) O).at (aR aa 0 (aV (H1.arrR (i:=0) O) (by omega)))) A22 O zr)<|mh O<|oh (fun w1 H1=>az (Kd 232) O ((fw ((wl b t).getD (t-15) 0) 7 (by decide) _).mono (fun e w2 hq=>⟨_,hq.1,rfl,hq.2⟩)))<|mh O<|oh (fun w1 H1=>az (Kd 232) O ((fw ((wl b t).getD (t-15) 0) 18 (by decide) _).mono (fun e w2 hq=>⟨_,hq.1,rfl,hq.2⟩)))<|oh (fun w1 H1=>cE O O zr)<|mh O<|oh (fun w1 H1=>cP (s:=3) O O zr)<|oh (fun w1 H1=>cE O O zr)<|oh (fun w1 H1=>bW O O zr)<|mh O<|mh O<|oh (fun w1 H1=>bE (b:=7) O O (by omega) (by omega) zr)<|oh (fun w1 H1=>aF A73 Fa.I22 O (H1.arrR (i:=0) O) O (by omega) zr)<|oh (fun w1 H1=>aj O ((H1.arrR (i:=0) O).at (aR aa 0 (aV (H1.arrR (i:=0) O) (by omega)))) A22 O zr)<|oh (fun w1 H1=>bW O O zr)<|mh O<|oh (fun w1 H1=>az (Kd 232) O ((fw ((wl b t).getD (t-2) 0) 17 (by decide) _).mono (fun e w2 hq=>⟨_,hq.1,rfl,hq.2⟩)))<|mh O<|oh (fun w1 H1=>az (Kd 232) O ((fw ((wl b t).getD (t-2) 0) 19 (by decide) _).mono (fun e w2 hq=>⟨_,hq.1,rfl,hq.2⟩)))<|oh (fun w1 H1=>cE O O zr)<|mh O<|oh (fun w1 H1=>cP (s:=10) O O zr)<|oh (fun w1 H1=>cE O O zr)<|oh (fun w1 H1=>bW O O zr)<|HW.flt (mk:=fun bq=>.slice (some ⟨bq.1,0,none⟩) 1 1) (ent:=fun bq=>.row (.slice (some ⟨bq.1,0,none⟩) 1 1) _ _ _ _) O (fun w1 _=>aW (cs:=[_]) (aL w1 []) A73 Fa.I22 O O O O (by decide) (by decide) (fun bq w2 H2=>⟨(bq,undef),rfl,H2,ae⟩))  bD) (by kernel_rfl) ?_
  intro β13 w13 H13
  exact wo (cx (f:=aa) (l:=(wl b t)) (l':=[(((((wl b t).getD (t-16) 0)+(((rot ((wl b t).getD (t-15) 0) 7) ^^^ (rot ((wl b t).getD (t-15) 0) 18)) ^^^ (cF ((wl b t).getD (t-15) 0) 3)))+((wl b t).getD (t-7) 0))+(((rot ((wl b t).getD (t-2) 0) 17) ^^^ (rot ((wl b t).getD (t-2) 0) 19)) ^^^ (cF ((wl b t).getD (t-2) 0) 10)))]) (i:=0) H13 A73 Fa.I22 O O O O (ck A73 (H13.arrR (i:=1) O)) (cV (fun _=>rfl)) (by omega) (by omega) (fun v14 w14 H14=>(wa O<|aY<|aE<|ao<|aG<|wm O<|wo (aU (b:=1) O O (by omega)<|wa O<|aY<|aX (t+1,v14) ⟨(by omega),(Own.rowEq (i:=0) (f:=aa) (H14.take 1) O (He b (by omega)))⟩ ⟨rfl,rfl,trivial⟩ (by show 64-(t+1)<64-t; omega)))))
 exact bc<|an<|an<|aS<|ao<|ws<|wm O<|wa O<|wn<|aC<|aD (.tmp O .nil) (⟨_,rfl,(by have ht:t=64:=(by omega); subst ht; exact H6)⟩)
theorem zj (h:St) (vh vk v:Value) (b:List UInt8) (w:World) (hl:b.length=64) (hH:Arr w vh 1 8 (Kg aa h.vals)) (hK:Arr w vk 1 64 (Kg aa kT)) (hA:Arr w v 1 64 (b.map vU8)) :
  Calls Kf 204 #[vh,vk,v] w (fun e w'=> ∃v,e=.returned v∧Ke [] w w' [.row v 22 1 8 (Kg aa (eI h b).vals)]):=by
 refine enter Tryz.func204 O O ?_
 have H0:=aL w []
 refine ws<|wa O<|wn<|ws<|wm O<|wo (az (Kd 231) O ((za _ _ _ hl (H0.arr hA)).mono (fun e w1 hq=>?_)))
 obtain ⟨v1,rfl,hq1⟩:=hq
 refine ⟨_,rfl,?_⟩
 have H1:=H0.splice [] [] [.row v1 22 1 64 (Kg aa (wl b 64))] O O hq1 (am ae aI)
 refine wa O<|wn<|ws<|wm O ?_
 have H3:=H1.nilRow 22 1
 refine wo (cx (f:=aa) (l:=[]) (l':=h.vals) (i:=1) H3 A73 Fa.I22 O O O O (ck A73 (H3.arr hH)) (cV (fun _=>rfl)) (by omega) (by omega) (fun v2 w2 H2=>(wa O<|wn<|ap<|ws<|wa O<|wn<|aB<|bi (α:=Nat × Value) (fun (t,q)=>[(0,vh),(1,vk),(7,v1),(8,q),(9,(vN t))]) (fun (t,q) w'=>(t≤64)∧Ke [] w w' [.row v1 22 1 64 (Kg aa (wl b 64)),.row q 22 1 8 (Kg aa (dr h (wl b 64) t).vals)]) (fun (t,q)=>64-t) (0,v2) ⟨(by omega),H2⟩ ⟨rfl,rfl,rfl,rfl,rfl,trivial⟩ ?_)))
 rintro ⟨t,q⟩ w4 ⟨hinv,H4⟩
 show WC _ _ _ _ _ [(0,vh),(1,vk),(7,v1),(8,q),(9,(vN t))] _
 refine ap<|ws<|wm O<|wo (bm (b:=64) O O<|wn (wE (t<64) (fun hb5 hc5=>?_) (fun hb5 hc5=>?_)))
 ·
  refine aA<|ao<|ap<|aB<|ap<|bn 15 Fa.M H4 (mh O<|oh (fun w1 H1=>aF (m:=4) A73 Fa.I22 O (H1.arrR (i:=1) O) O (by omega) zr)<|oh (fun w1 H1=>aj O ((H1.arrR (i:=1) O).at (aR aa 0 (aV (H1.arrR (i:=1) O) (by omega)))) A22 O zr)<|oh (fun w1 H1=>az (Kd 232) O ((fw ((dr h (wl b 64) t).vals.getD 4 0) 6 (by decide) _).mono (fun e w2 hq=>⟨_,hq.1,rfl,hq.2⟩)))<|mh O<|oh (fun w1 H1=>aF (m:=4) A73 Fa.I22 O (H1.arrR (i:=1) O) O (by omega) zr)<|oh (fun w1 H1=>aj O ((H1.arrR (i:=1) O).at (aR aa 0 (aV (H1.arrR (i:=1) O) (by omega)))) A22 O zr)<|oh (fun w1 H1=>az (Kd 232) O ((fw ((dr h (wl b 64) t).vals.getD 4 0) 11 (by decide) _).mono (fun e w2 hq=>⟨_,hq.1,rfl,hq.2⟩)))<|oh (fun w1 H1=>cE O O zr)<|mh O<|oh (fun w1 H1=>aF (m:=4) A73 Fa.I22 O (H1.arrR (i:=1) O) O (by omega) zr)<|oh (fun w1 H1=>aj O ((H1.arrR (i:=1) O).at (aR aa 0 (aV (H1.arrR (i:=1) O) (by omega)))) A22 O zr)<|oh (fun w1 H1=>az (Kd 232) O ((fw ((dr h (wl b 64) t).vals.getD 4 0) 25 (by decide) _).mono (fun e w2 hq=>⟨_,hq.1,rfl,hq.2⟩)))<|oh (fun w1 H1=>cE O O zr)<|ah O  bD) (by kernel_rfl) ?_
  intro β9 w9 H9
  refine wn<|ap<|bn 17 Fa.M H9 (mh O<|oh (fun w1 H1=>aF (m:=4) A73 Fa.I22 O (H1.arrR (i:=1) O) O (by omega) zr)<|oh (fun w1 H1=>aj O ((H1.arrR (i:=1) O).at (aR aa 0 (aV (H1.arrR (i:=1) O) (by omega)))) A22 O zr)<|mh O<|oh (fun w1 H1=>aF (m:=5) A73 Fa.I22 O (H1.arrR (i:=1) O) O (by omega) zr)<|oh (fun w1 H1=>aj O ((H1.arrR (i:=1) O).at (aR aa 0 (aV (H1.arrR (i:=1) O) (by omega)))) A22 O zr)<|oh (fun w1 H1=>fm O O zr)<|mh O<|oh (fun w1 H1=>aF (m:=4) A73 Fa.I22 O (H1.arrR (i:=1) O) O (by omega) zr)<|oh (fun w1 H1=>aj O ((H1.arrR (i:=1) O).at (aR aa 0 (aV (H1.arrR (i:=1) O) (by omega)))) A22 O zr)<|oh (fun w1 H1=>wI O zr)<|mh O<|oh (fun w1 H1=>aF (m:=6) A73 Fa.I22 O (H1.arrR (i:=1) O) O (by omega) zr)<|oh (fun w1 H1=>aj O ((H1.arrR (i:=1) O).at (aR aa 0 (aV (H1.arrR (i:=1) O) (by omega)))) A22 O zr)<|oh (fun w1 H1=>fm O O zr)<|oh (fun w1 H1=>cE O O zr)<|ah O  bD) (by kernel_rfl) ?_
  intro β10 w10 H10
  refine wn<|ap<|bn 18 Fa.M H10 (mh O<|oh (fun w1 H1=>aF (m:=7) A73 Fa.I22 O (H1.arrR (i:=1) O) O (by omega) zr)<|oh (fun w1 H1=>aj O ((H1.arrR (i:=1) O).at (aR aa 0 (aV (H1.arrR (i:=1) O) (by omega)))) A22 O zr)<|mh O<|oh (fun w1 H1=>bW O O zr)<|mh O<|oh (fun w1 H1=>bW O O zr)<|mh O<|mh O<|oh (fun w1 H1=>aF A73 Fa.I22 O (H1.arr hK) O (by omega) zr)<|oh (fun w1 H1=>aj O ((H1.arr hK).at (aR aa 0 (aV (H1.arr hK) (by omega)))) A22 O zr)<|oh (fun w1 H1=>bW O O zr)<|mh O<|mh O<|oh (fun w1 H1=>aF A73 Fa.I22 O (H1.arrR (i:=0) O) O (by omega) zr)<|oh (fun w1 H1=>aj O ((H1.arrR (i:=0) O).at (aR aa 0 (aV (H1.arrR (i:=0) O) (by omega)))) A22 O zr)<|oh (fun w1 H1=>bW O O zr)<|ah O  bD) (by kernel_rfl) ?_
  intro β11 w11 H11
  refine wn<|ap<|bn 15 Fa.M H11 (mh O<|oh (fun w1 H1=>aF (m:=0) A73 Fa.I22 O (H1.arrR (i:=1) O) O (by omega) zr)<|oh (fun w1 H1=>aj O ((H1.arrR (i:=1) O).at (aR aa 0 (aV (H1.arrR (i:=1) O) (by omega)))) A22 O zr)<|oh (fun w1 H1=>az (Kd 232) O ((fw ((dr h (wl b 64) t).vals.getD 0 0) 2 (by decide) _).mono (fun e w2 hq=>⟨_,hq.1,rfl,hq.2⟩)))<|mh O<|oh (fun w1 H1=>aF (m:=0) A73 Fa.I22 O (H1.arrR (i:=1) O) O (by omega) zr)<|oh (fun w1 H1=>aj O ((H1.arrR (i:=1) O).at (aR aa 0 (aV (H1.arrR (i:=1) O) (by omega)))) A22 O zr)<|oh (fun w1 H1=>az (Kd 232) O ((fw ((dr h (wl b 64) t).vals.getD 0 0) 13 (by decide) _).mono (fun e w2 hq=>⟨_,hq.1,rfl,hq.2⟩)))<|oh (fun w1 H1=>cE O O zr)<|mh O<|oh (fun w1 H1=>aF (m:=0) A73 Fa.I22 O (H1.arrR (i:=1) O) O (by omega) zr)<|oh (fun w1 H1=>aj O ((H1.arrR (i:=1) O).at (aR aa 0 (aV (H1.arrR (i:=1) O) (by omega)))) A22 O zr)<|oh (fun w1 H1=>az (Kd 232) O ((fw ((dr h (wl b 64) t).vals.getD 0 0) 22 (by decide) _).mono (fun e w2 hq=>⟨_,hq.1,rfl,hq.2⟩)))<|oh (fun w1 H1=>cE O O zr)<|ah O  bD) (by kernel_rfl) ?_
  intro β15 w15 H15
  refine wn<|ap<|bn 24 Fa.M H15 (mh O<|oh (fun w1 H1=>aF (m:=0) A73 Fa.I22 O (H1.arrR (i:=1) O) O (by omega) zr)<|oh (fun w1 H1=>aj O ((H1.arrR (i:=1) O).at (aR aa 0 (aV (H1.arrR (i:=1) O) (by omega)))) A22 O zr)<|mh O<|oh (fun w1 H1=>aF (m:=1) A73 Fa.I22 O (H1.arrR (i:=1) O) O (by omega) zr)<|oh (fun w1 H1=>aj O ((H1.arrR (i:=1) O).at (aR aa 0 (aV (H1.arrR (i:=1) O) (by omega)))) A22 O zr)<|oh (fun w1 H1=>fm O O zr)<|mh O<|oh (fun w1 H1=>aF (m:=0) A73 Fa.I22 O (H1.arrR (i:=1) O) O (by omega) zr)<|oh (fun w1 H1=>aj O ((H1.arrR (i:=1) O).at (aR aa 0 (aV (H1.arrR (i:=1) O) (by omega)))) A22 O zr)<|mh O<|oh (fun w1 H1=>aF (m:=2) A73 Fa.I22 O (H1.arrR (i:=1) O) O (by omega) zr)<|oh (fun w1 H1=>aj O ((H1.arrR (i:=1) O).at (aR aa 0 (aV (H1.arrR (i:=1) O) (by omega)))) A22 O zr)<|oh (fun w1 H1=>fm O O zr)<|oh (fun w1 H1=>cE O O zr)<|mh O<|oh (fun w1 H1=>aF (m:=1) A73 Fa.I22 O (H1.arrR (i:=1) O) O (by omega) zr)<|oh (fun w1 H1=>aj O ((H1.arrR (i:=1) O).at (aR aa 0 (aV (H1.arrR (i:=1) O) (by omega)))) A22 O zr)<|mh O<|oh (fun w1 H1=>aF (m:=2) A73 Fa.I22 O (H1.arrR (i:=1) O) O (by omega) zr)<|oh (fun w1 H1=>aj O ((H1.arrR (i:=1) O).at (aR aa 0 (aV (H1.arrR (i:=1) O) (by omega)))) A22 O zr)<|oh (fun w1 H1=>fm O O zr)<|oh (fun w1 H1=>cE O O zr)<|ah O  bD) (by kernel_rfl) ?_
  intro β16 w16 H16
  refine wn<|ws<|wm O<|wm O<|wo (bW O O<|wa O<|wn<|bn 27 Fa.M H16 (mh O<|mh O<|oh (fun w1 H1=>bW O O zr)<|mh O<|oh (fun w1 H1=>aF (m:=0) A73 Fa.I22 O (H1.arrR (i:=1) O) O (by omega) zr)<|oh (fun w1 H1=>aj O ((H1.arrR (i:=1) O).at (aR aa 0 (aV (H1.arrR (i:=1) O) (by omega)))) A22 O zr)<|mh O<|oh (fun w1 H1=>aF (m:=1) A73 Fa.I22 O (H1.arrR (i:=1) O) O (by omega) zr)<|oh (fun w1 H1=>aj O ((H1.arrR (i:=1) O).at (aR aa 0 (aV (H1.arrR (i:=1) O) (by omega)))) A22 O zr)<|mh O<|oh (fun w1 H1=>aF (m:=2) A73 Fa.I22 O (H1.arrR (i:=1) O) O (by omega) zr)<|oh (fun w1 H1=>aj O ((H1.arrR (i:=1) O).at (aR aa 0 (aV (H1.arrR (i:=1) O) (by omega)))) A22 O zr)<|mh O<|oh (fun w1 H1=>aF (m:=3) A73 Fa.I22 O (H1.arrR (i:=1) O) O (by omega) zr)<|oh (fun w1 H1=>aj O ((H1.arrR (i:=1) O).at (aR aa 0 (aV (H1.arrR (i:=1) O) (by omega)))) A22 O zr)<|mh O<|oh (fun w1 H1=>bW O O zr)<|mh O<|oh (fun w1 H1=>aF (m:=4) A73 Fa.I22 O (H1.arrR (i:=1) O) O (by omega) zr)<|oh (fun w1 H1=>aj O ((H1.arrR (i:=1) O).at (aR aa 0 (aV (H1.arrR (i:=1) O) (by omega)))) A22 O zr)<|mh O<|oh (fun w1 H1=>aF (m:=5) A73 Fa.I22 O (H1.arrR (i:=1) O) O (by omega) zr)<|oh (fun w1 H1=>aj O ((H1.arrR (i:=1) O).at (aR aa 0 (aV (H1.arrR (i:=1) O) (by omega)))) A22 O zr)<|mh O<|oh (fun w1 H1=>aF (m:=6) A73 Fa.I22 O (H1.arrR (i:=1) O) O (by omega) zr)<|oh (fun w1 H1=>aj O ((H1.arrR (i:=1) O).at (aR aa 0 (aV (H1.arrR (i:=1) O) (by omega)))) A22 O zr)<|HW.flt (mk:=fun bq=>.slice (some ⟨bq.1,0,none⟩) 8 8) (ent:=fun bq=>.row (.slice (some ⟨bq.1,0,none⟩) 8 8) _ _ _ _) O (fun w1 _=>aW (cs:=[_,_,_,_,_,_,_,_]) (aL w1 []) A73 Fa.I22 O O O O (by decide) (by decide) (fun bq w2 H2=>⟨(bq,undef),rfl,H2,ae⟩))  bD) (by kernel_rfl) ?_)
  intro β17 w17 H17
  exact wa O<|aY<|aE<|ao<|aG<|wm O<|wo (aU (b:=1) O O (by omega)<|wa O<|aY<|aX (t+1,(.slice (some ⟨(β17 26).1,0,none⟩) 8 8)) ⟨(by omega),(Own.rowEq (i:=1) (f:=aa) (H17.sel [0,2] O O) O (Dw (dr h (wl b 64) t) (kT.getD t 0) ((wl b 64).getD t 0)))⟩ ⟨rfl,rfl,rfl,rfl,rfl,trivial⟩ (by show 64-(t+1)<64-t; omega))
 refine bc<|an<|an<|aS<|ao<|ap<|ws<|wa O<|wn<|aB<|bi (α:=Nat) (fun k=>[(0,vh),(8,q),(16,(vN k))]) (fun k w'=>(k≤8)∧Ke [] w w' [.row v1 22 1 64 (Kg aa (wl b 64)),.row q 22 1 8 (Kg aa (iC (dr h (wl b 64) 64) h k))]) (fun k=>8-k) 0 ⟨(by omega),(by have ht:t=64:=(by omega); subst ht; exact H4)⟩ ⟨rfl,rfl,rfl,trivial⟩ ?_
 rintro k w18 ⟨hinv,H18⟩
 show WC _ _ _ _ _ [(0,vh),(8,q),(16,(vN k))] _
 refine ap<|ws<|wm O<|wo (bm (b:=8) O O<|wn (wE (k<8) (fun hb19 hc19=>?_) (fun hb19 hc19=>?_)))
 ·
  refine aA<|ao<|ap<|aB<|bn 12 Fa.M H18 (mh O<|mh O<|mh O<|mh O<|oh (fun w1 H1=>aF A73 Fa.I22 O (H1.arrR (i:=1) O) O (by omega) zr)<|oh (fun w1 H1=>aj O ((H1.arrR (i:=1) O).at (aR aa 0 (aV (H1.arrR (i:=1) O) (by omega)))) A22 O zr)<|mh O<|mh O<|oh (fun w1 H1=>aF A73 Fa.I22 O (H1.arr hH) O (by omega) zr)<|oh (fun w1 H1=>aj O ((H1.arr hH).at (aR aa 0 (aV (H1.arr hH) (by omega)))) A22 O zr)<|oh (fun w1 H1=>bW O O zr)<|oh (fun w1 H1=>aF A73 Fa.I22 O (H1.arrR (i:=1) O) O (by omega) zr)  bD) (by kernel_rfl) ?_
  intro β20 w20 H20
  exact wo (bN (i:=1) (f:=aa) (l:=(iC (dr h (wl b 64) 64) h k)) (c:=(((iC (dr h (wl b 64) 64) h k).getD k 0)+(h.vals.getD k 0))) H20 O O O (by omega) O Fa.I22 (fun w21 H21=>(aY<|aE<|ao<|aG<|wm O<|wo (aU (b:=1) O O (by omega)<|wa O<|aY<|aX (k+1) ⟨(by omega),(Own.rowEq (i:=1) (f:=aa) H21 O (rL (dr h (wl b 64) 64) h k (by omega)).symm)⟩ ⟨rfl,rfl,rfl,trivial⟩ (by omega)))))
 exact bc<|an<|an<|aS<|ao<|ws<|wm O<|wa O<|wn<|aC<|aD (.tmp O .nil) (⟨_,rfl,(by have hk:k=8:=(by omega); subst hk; exact H18.sel [1] O O)⟩)
theorem qt (s:List UInt8) (w:World) (hs:s.length<2^40) :
  Calls Kf 163 #[(str s)] w (fun e w'=>e=.returned (str (sha s))∧Fr [] w w'):=by
 refine enter Tryz.func163 O O ?_
 have H0:=aL w []
 refine ws<|wa O<|wn<|ws<|wo (az (Kd 202) O ((zf _).mono (fun e w1 hq=>?_)))
 obtain ⟨v1,rfl,hq1⟩:=hq
 refine ⟨_,rfl,?_⟩
 have H1:=H0.splice [] [] [.row v1 22 1 8 (Kg aa dK.vals)] O O hq1 (am ae aI)
 refine wo (az (Kd 202) O ((xx _).mono (fun e w2 hq=>?_)))
 obtain ⟨v2,rfl,hq2⟩:=hq
 refine ⟨_,rfl,?_⟩
 have H2:=H1.splice [] [] [.row v2 22 1 64 (Kg aa kT)] O O hq2 (am ae aI)
 refine wa O<|wa O<|wn<|ws<|wm O<|wo (az (Kd 203) O ((Aa s _ hs).mono (fun e w3 hq=>?_)))
 obtain ⟨v3,rfl,hq3⟩:=hq
 refine ⟨_,rfl,?_⟩
 have H3:=H2.splice [] [] [.row v3 5 1 (s++bZ s.length).length (Kg vU8 (s++bZ s.length))] O O hq3 (am ae aI)
 refine wa O<|wn<|ap<|aB<|bi (α:=Nat × Value × Value) (fun (j,qh,qb)=>[(3,qh),(4,v2),(5,qb)]) (fun (j,qh,qb) w'=>(64 * j≤(s++bZ s.length).length)∧Ke [] w w' [.row qh 22 1 8 (Kg aa (bst dK (s++bZ s.length) j).vals),.row v2 22 1 64 (Kg aa kT),.row qb 5 1 (cA (s++bZ s.length) j).length (Kg vU8 (cA (s++bZ s.length) j))]) (fun (j,qh,qb)=>(s++bZ s.length).length-64 * j) (0,v1,v3) ⟨(by omega),H3⟩ ⟨rfl,rfl,rfl,trivial⟩ ?_
 rintro ⟨j,qh,qb⟩ w4 ⟨hinv,H4⟩
 show WC _ _ _ _ _ [(3,qh),(4,v2),(5,qb)] _
 have hb0:=fD (s++bZ s.length) j
 have hP:(s++bZ s.length).length%64=0:=(by have:=oB s.length; rw [Kj]; omega)
 refine ap<|ws<|wm O<|wo (bu A114 O (H4.arrR (i:=2) O)<|wo (cm (b:=0) O O<|wn (wE ((cA (s++bZ s.length) j).length>0) (fun hb5 hc5=>?_) (fun hb5 hc5=>?_))))
 ·
  refine aA<|ao<|aB<|ws<|wm O<|wm O<|wm O<|wo (hU (b:=64) A114 Fa.I5 O (H4.arrR (i:=2) O) O (by omega)<|wo (az (Kd 204) O ((zj (bst dK (s++bZ s.length) j) _ _ _ ((cA (s++bZ s.length) j).take 64) _ (by rw [List.length_take]; omega) (H4.arrR (i:=0) O) (H4.arrR (i:=1) O) (((H4.arrR (i:=2) O)).cutHiM (f:=vU8) (l:=(cA (s++bZ s.length) j)) (b:=64) (by omega))).mono (fun e w6 hq=>?_))))
  obtain ⟨v6,rfl,hq6⟩:=hq
  refine ⟨_,rfl,?_⟩
  have H6:=H4.splice [] [] [.row v6 22 1 8 (Kg aa (eI (bst dK (s++bZ s.length) j) ((cA (s++bZ s.length) j).take 64)).vals)] O O hq6 (am ae aI)
  refine wa O<|wn<|aG<|wm O<|wo (jL (a:=64) A114 Fa.I5 O (H6.arrR (i:=2) O) O (by omega) ?_)
  have H7:=H6.cutLoM (f:=vU8) (l:=(cA (s++bZ s.length) j)) (a:=64) (i:=2) O (by omega)
  exact wa O<|aY<|aE<|aX (j+1,v6,(fT qb 64 (cA (s++bZ s.length) j).length 1)) ⟨(by omega),(cM (i:=2) (f:=vU8) (H7.sel [3,1,2] O O) O O (List.length_drop).symm)⟩ ⟨rfl,rfl,rfl,trivial⟩ (by show (s++bZ s.length).length-64 * (j+1)<(s++bZ s.length).length-64 * j; omega)
 refine bc<|an<|an<|aS<|ao<|ws<|wa O ?_
 have H8:=H4.nilRow 5 1
 refine wn<|ap<|ws<|wa O<|wn<|aB<|bi (α:=Nat × Value) (fun (k,t2)=>[(3,qh),(6,t2),(7,(vN k))]) (fun (k,t2) w'=>(k≤8)∧Ke [] w w' [.row qh 22 1 8 (Kg aa (bst dK (s++bZ s.length) j).vals),.row v2 22 1 64 (Kg aa kT),.row qb 5 1 (cA (s++bZ s.length) j).length (Kg vU8 (cA (s++bZ s.length) j)),.row t2 5 1 (4 * k) (Kg vU8 (jI (bst dK (s++bZ s.length) j) k))]) (fun (k,t2)=>8-k) (0,(.slice none 0 0)) ⟨(by omega),H8⟩ ⟨rfl,rfl,rfl,trivial⟩ ?_
 rintro ⟨k,t2⟩ w9 ⟨hinv,H9⟩
 show WC _ _ _ _ _ [(3,qh),(6,t2),(7,(vN k))] _
 refine ap<|ws<|wm O<|wo (bm (b:=8) O O<|wn (wE (k<8) (fun hb10 hc10=>?_) (fun hb10 hc10=>?_)))
 ·
  refine aA<|ao<|ap<|aB<|bn 25 Fa.M H9 (mh O<|mh O<|mh O<|oh (fun w1 H1=>aF A73 Fa.I22 O (H1.arrR (i:=0) O) O (by omega) zr)<|oh (fun w1 H1=>aj O ((H1.arrR (i:=0) O).at (aR aa 0 (aV (H1.arrR (i:=0) O) (by omega)))) A22 O zr)<|oh (fun w1 H1=>cP (s:=24) O O zr)<|oh (fun w1 H1=>co (hs:=A22) (hd:=A5) O zr)<|mh O<|mh O<|oh (fun w1 H1=>aF A73 Fa.I22 O (H1.arrR (i:=0) O) O (by omega) zr)<|oh (fun w1 H1=>aj O ((H1.arrR (i:=0) O).at (aR aa 0 (aV (H1.arrR (i:=0) O) (by omega)))) A22 O zr)<|oh (fun w1 H1=>cP (s:=16) O O zr)<|oh (fun w1 H1=>co (hs:=A22) (hd:=A5) O zr)<|mh O<|mh O<|oh (fun w1 H1=>aF A73 Fa.I22 O (H1.arrR (i:=0) O) O (by omega) zr)<|oh (fun w1 H1=>aj O ((H1.arrR (i:=0) O).at (aR aa 0 (aV (H1.arrR (i:=0) O) (by omega)))) A22 O zr)<|oh (fun w1 H1=>cP (s:=8) O O zr)<|oh (fun w1 H1=>co (hs:=A22) (hd:=A5) O zr)<|mh O<|mh O<|oh (fun w1 H1=>aF A73 Fa.I22 O (H1.arrR (i:=0) O) O (by omega) zr)<|oh (fun w1 H1=>aj O ((H1.arrR (i:=0) O).at (aR aa 0 (aV (H1.arrR (i:=0) O) (by omega)))) A22 O zr)<|oh (fun w1 H1=>co (hs:=A22) (hd:=A5) O zr)<|HW.flt (mk:=fun bq=>.slice (some ⟨bq.1,0,none⟩) 4 4) (ent:=fun bq=>.row (.slice (some ⟨bq.1,0,none⟩) 4 4) _ _ _ _) O (fun w1 _=>aW (cs:=[_,_,_,_]) (aL w1 []) A114 Fa.I5 O O O O (by decide) (by decide) (fun bq w2 H2=>⟨(bq,undef),rfl,H2,ae⟩))  bD) (by kernel_rfl) ?_
  intro β11 w11 H11
  exact wo (cx (f:=vU8) (l:=(jI (bst dK (s++bZ s.length) j) k)) (l':=[(UInt8.ofNat (cF ((bst dK (s++bZ s.length) j).vals.getD k 0) 24).toNat),(UInt8.ofNat (cF ((bst dK (s++bZ s.length) j).vals.getD k 0) 16).toNat),(UInt8.ofNat (cF ((bst dK (s++bZ s.length) j).vals.getD k 0) 8).toNat),(UInt8.ofNat ((bst dK (s++bZ s.length) j).vals.getD k 0).toNat)]) (i:=3) H11 A114 Fa.I5 O O O O (ck A114 (H11.arrR (i:=4) O)) (cV (fun _=>rfl)) (by omega) (by omega) (fun v12 w12 H12=>(wa O<|aY<|aE<|ao<|aG<|wm O<|wo (aU (b:=1) O O (by omega)<|wa O<|aY<|aX (k+1,v12) ⟨(by omega),(H12.take 4)⟩ ⟨rfl,rfl,rfl,trivial⟩ (by show 8-(k+1)<8-k; omega)))))
 exact bc<|an<|an<|aS<|ao<|ws<|wm O<|wo (cD (l:=(jI (bst dK (s++bZ s.length) j) k)) A114 A5 A9 O (H9.arrR (i:=3) O) O<|wa O<|wn<|aC<|aD (.tmp O .nil) (⟨by have hk:k=8:=(by omega); subst hk; have hj:j=(s++bZ s.length).length / 64:=(by omega); subst hj; rfl,H9.fr⟩))
theorem zL (key:List UInt8) (w:World) (hk:key.length<2^40) :
  Calls Kf 192 #[(str key)] w (fun e w'=>e=.returned (str (bB key))∧Fr [] w w'):=by
 refine enter Tryz.func192 O O ?_
 have H0:=aL w []
 refine ws<|wa O<|wn<|ap<|ws<|wm O<|wo (bH A9 O<|wo (cm (b:=64) O O<|wn (wE (key.length>64) (fun hb1 hc1=>?_) (fun hb1 hc1=>?_))))
 ·
  have hl:=dO key
  refine aG<|wm O<|wo (cq H0 (Kd 227) O (CZ key _ hk) fun w2 H2=>(wa O<|wn<|ws<|wm O<|wm O<|wo (bH A9 O<|wo (bE (a:=64) O O (by omega) (by omega)<|wo (dj (f:=vU8) (c:=0) H2 A114 Fa.I5 O O (by omega) (by omega) (fun b3 w3 H3=>(wo (cD (l:=(Ki (64-(sha key).length) 0)) A114 A5 A9 O (H3.arrR (i:=0) O) O<|wo (fK O O (by first | omega | (rw [Kj]; omega) | (simp; omega)) ?_)))))))))
  exact wa O<|wn<|aC<|aD (.tmp O .nil) (⟨by rw [bB,pK,if_pos hc1]; rfl,H3.fr⟩)
 refine aA<|ao<|ws<|wm O<|wm O<|wo (bH A9 O<|wo (bE (a:=64) O O (by omega) (by omega)<|wo (dj (f:=vU8) (c:=0) H0 A114 Fa.I5 O O (by omega) (by omega) (fun b4 w4 H4=>(wo (cD (l:=(Ki (64-key.length) 0)) A114 A5 A9 O (H4.arrR (i:=0) O) O<|wo (fK O O (by first | omega | (rw [Kj]; omega) | (simp; omega)) ?_)))))))
 exact wa O<|wn<|aC<|aD (.tmp O .nil) (⟨by rw [bB,pK,if_neg hc1]; rfl,H4.fr⟩)
theorem rc (s:List UInt8) (c:UInt8) (w:World) (hs:s.length<2^40) :
  Calls Kf 194 #[(str s),(vU8 c)] w (fun e w'=>e=.returned (str (ce s c))∧Fr [] w w'):=by
 refine enter Tryz.func194 O O ?_
 have H0:=aL w []
 refine ws<|wa O<|wn<|ws<|wm O<|wo (kG H0 A9 A5 A114 O (by omega) (fun v1 w1 H1=>(wa O<|wn<|ap<|ws<|wm O<|wo (bu A114 O (H1.arrR (i:=0) O)<|wm O<|wn<|aB<|bi (α:=Nat) (fun k=>[(1,(vU8 c)),(5,v1),(10,(vN s.length)),(11,(vN k))]) (fun k w'=>(k≤s.length)∧Ke [] w w' [.row v1 5 1 s.length (Kg vU8 (iA s c k))]) (fun k=>s.length-k) 0 ⟨(by omega),H1⟩ ⟨rfl,rfl,rfl,rfl,trivial⟩ ?_))))
 rintro k w2 ⟨hinv,H2⟩
 show WC _ _ _ _ _ [(1,(vU8 c)),(5,v1),(10,(vN s.length)),(11,(vN k))] _
 refine ws<|wo (bm O O<|wn<|ap (wE (k<s.length) (fun hb3 hc3=>?_) (fun hb3 hc3=>?_)))
 ·
  exact aA<|ao<|ap<|aB<|ws<|wm O<|wa O<|wn<|aG<|wm O<|wm O<|wo (aF A114 Fa.I5 O (H2.arrR (i:=0) O) O (by omega)<|wo (aj O ((H2.arrR (i:=0) O).at (aR vU8 0 (aV (H2.arrR (i:=0) O) (by omega)))) A5 O<|wm O<|wo (gW O O<|wo (aF A114 Fa.I5 O (H2.arrR (i:=0) O) O (by omega)<|wo (bN (i:=0) (f:=vU8) (l:=(iA s c k)) (c:=(((iA s c k).getD k 0) ^^^ c)) H2 O O O (by omega) O Fa.I5 (fun w4 H4=>(aY<|aE<|ao<|aG<|wo (aU (b:=1) O O (by omega)<|wm O<|aY<|aX (k+1) ⟨(by omega),(Own.rowEq (i:=0) (f:=vU8) H4 O (xf s c (by omega)))⟩ ⟨rfl,rfl,rfl,rfl,trivial⟩ (by omega)))))))))
 exact bc<|an<|an<|aS<|ao<|ws<|wm O<|wo (cD (l:=(iA s c k)) A114 A5 A9 O (H2.arrR (i:=0) O) O<|wa O<|wn<|aC<|aD (.tmp O .nil) (⟨by have hk:k=s.length:=(by omega); subst hk; rw [yN]; rfl,H2.fr⟩))
theorem rr (key:List UInt8) (w:World) (hk:key.length<2^40) :
  Calls Kf 153 #[(str key)] w (fun e w'=> ∃m q v,e=.returned (ptr m 0)∧Ke [] w w' [.blk m [(ptr q 0),(str (bB key))] 293,.blk q [(aa (hst (ce (bB key) 54)).a),(aa (hst (ce (bB key) 54)).b),(aa (hst (ce (bB key) 54)).c),(aa (hst (ce (bB key) 54)).d),(aa (hst (ce (bB key) 54)).e),(aa (hst (ce (bB key) 54)).f),(aa (hst (ce (bB key) 54)).g),(aa (hst (ce (bB key) 54)).h),v,(vN (ce (bB key) 54).length)] 325,.row v 5 1 (hrest (ce (bB key) 54)).length ((hrest (ce (bB key) 54)).map vU8)]):=by
 refine enter Tryz.func153 O O ?_
 have H0:=aL w []
 refine ws<|wa O<|wn<|ws<|wo (az (Kd 191) O ((sY _).mono (fun e w1 hq=>?_)))
 obtain ⟨q1,rfl,hq1⟩:=hq
 refine ⟨_,rfl,?_⟩
 have H1:=H0.splice [] [] [.blk q1 [(aa (hst ([]:List UInt8)).a),(aa (hst ([]:List UInt8)).b),(aa (hst ([]:List UInt8)).c),(aa (hst ([]:List UInt8)).d),(aa (hst ([]:List UInt8)).e),(aa (hst ([]:List UInt8)).f),(aa (hst ([]:List UInt8)).g),(aa (hst ([]:List UInt8)).h),(.slice none 0 0),(vN ([]:List UInt8).length)] 325,.row (.slice none 0 0) 5 1 (hrest ([]:List UInt8)).length (Kg vU8 (hrest ([]:List UInt8)))] O O hq1 (am ae (am ae aI))
 refine wm O<|wo (cq H1 (Kd 192) O (zL key _ hk) fun w2 H2=>(wo (bP (cs:=[_,_]) Fa.If Fa.Hx O O<|wo (bK H2 O O (fun b3 w3 H3=>(wa O<|wn<|ap<|bn 10 Fa.M H3 (mh O<|oh (fun w1 H1=>aJ O zr)<|oh (fun w1 H1=>ab O Fa.uj zr)<|oh (fun w1 H1=>aj O (H1.cell (i:=2) O O) A290 O zr)<|mh O<|oh (fun w1 H1=>aJ O zr)<|oh (fun w1 H1=>ab O Fa.yF zr)<|oh (fun w1 H1=>aj O (H1.cell (i:=2) O O) A9 O zr)<|oh (fun w1 H1=>az (Kd 194) O ((rc (bB key) 54 _ (by rw [cj]; decide)).mono (fun e w2 hq=>⟨_,hq.1,rfl,hq.2⟩)))<|HW.flt (mk:=fun bq=>.slice (some ⟨bq.1,0,none⟩) 1 1) (ent:=fun bq=>.row (.slice (some ⟨bq.1,0,none⟩) 1 1) _ _ _ _) O (fun w1 _=>aW (cs:=[_]) (aL w1 []) A59 Fa.I9 O O O O (by decide) (by decide) (fun bq w2 H2=>⟨(bq,undef),rfl,H2,ae⟩))  bD) (by kernel_rfl) ?_))))))
 intro β5 w5 H5
 refine wo (az (Kd 193) O ((li q1 (.slice none 0 0) (.slice (some ⟨(β5 9).1,0,none⟩) 1 1) ([]:List UInt8) ([(ce (bB key) 54)]) _ _ (H5.part [0,1] O O) (H5.stayR (I:=[0,1]) (k:=3) O O O) (by simp [cz,cj]) (by simp)).mono (fun e w6 hq=>?_)))
 obtain ⟨v6,rfl,hq6⟩:=hq
 refine ⟨_,rfl,?_⟩
 have H6:=H5.splice [0,1] [.blk q1 [(aa (hst (([]:List UInt8)++[(ce (bB key) 54)].flatten)).a),(aa (hst (([]:List UInt8)++[(ce (bB key) 54)].flatten)).b),(aa (hst (([]:List UInt8)++[(ce (bB key) 54)].flatten)).c),(aa (hst (([]:List UInt8)++[(ce (bB key) 54)].flatten)).d),(aa (hst (([]:List UInt8)++[(ce (bB key) 54)].flatten)).e),(aa (hst (([]:List UInt8)++[(ce (bB key) 54)].flatten)).f),(aa (hst (([]:List UInt8)++[(ce (bB key) 54)].flatten)).g),(aa (hst (([]:List UInt8)++[(ce (bB key) 54)].flatten)).h),v6,(vN (([]:List UInt8)++[(ce (bB key) 54)].flatten).length)] 325,.row v6 5 1 (hrest (([]:List UInt8)++[(ce (bB key) 54)].flatten)).length (Kg vU8 (hrest (([]:List UInt8)++[(ce (bB key) 54)].flatten)))] [] O O hq6 (am ae (am ae aI))
 exact wn<|ws<|wm O<|wa O<|wn<|aC<|aD (.tmp O .nil) (⟨_,_,_,rfl,(by have h:Ke [] w w6 [.blk b3 [(ptr q1 0),(str (bB key))] 293,.blk q1 [(aa (hst (([]:List UInt8)++[(ce (bB key) 54)].flatten)).a),(aa (hst (([]:List UInt8)++[(ce (bB key) 54)].flatten)).b),(aa (hst (([]:List UInt8)++[(ce (bB key) 54)].flatten)).c),(aa (hst (([]:List UInt8)++[(ce (bB key) 54)].flatten)).d),(aa (hst (([]:List UInt8)++[(ce (bB key) 54)].flatten)).e),(aa (hst (([]:List UInt8)++[(ce (bB key) 54)].flatten)).f),(aa (hst (([]:List UInt8)++[(ce (bB key) 54)].flatten)).g),(aa (hst (([]:List UInt8)++[(ce (bB key) 54)].flatten)).h),v6,(vN (([]:List UInt8)++[(ce (bB key) 54)].flatten).length)] 325,.row v6 5 1 (hrest (([]:List UInt8)++[(ce (bB key) 54)].flatten)).length (Kg vU8 (hrest (([]:List UInt8)++[(ce (bB key) 54)].flatten)))]:=H6.sel [2,0,1] O O; rw [show ([]:List UInt8)++[(ce (bB key) 54)].flatten=(ce (bB key) 54) from by simp] at h; exact h)⟩)
theorem vo (m q:Nat) (v lv:Value) (B A:List UInt8) (ls:List (List UInt8)) (T:List Nat) (w:World) (H:Ke T w w [.blk m [(ptr q 0),(str B)] 293,.blk q [(aa (hst A).a),(aa (hst A).b),(aa (hst A).c),(aa (hst A).d),(aa (hst A).e),(aa (hst A).f),(aa (hst A).g),(aa (hst A).h),v,(vN A.length)] 325,.row v 5 1 (hrest A).length ((hrest A).map vU8)]) {nl:Nat} (hA: ∀w1,Fr T w w1→Arr w1 lv 1 nl (ls.map str)) (hb:(A++ls.flatten).length<2^40) (hn:ls.length<2^40) :
  Calls Kf 154 #[(ptr m 0),lv] w (fun e w'=> ∃v,e=.returned (vN 0)∧Ke T w w' [.blk m [(ptr q 0),(str B)] 293,.blk q [(aa (hst (A++ls.flatten)).a),(aa (hst (A++ls.flatten)).b),(aa (hst (A++ls.flatten)).c),(aa (hst (A++ls.flatten)).d),(aa (hst (A++ls.flatten)).e),(aa (hst (A++ls.flatten)).f),(aa (hst (A++ls.flatten)).g),(aa (hst (A++ls.flatten)).h),v,(vN (A++ls.flatten).length)] 325,.row v 5 1 (hrest (A++ls.flatten)).length ((hrest (A++ls.flatten)).map vU8)]):=by
 refine enter Tryz.func154 O O<|ws<|wa O<|wn<|ap<|ws<|wm O<|wo (bG Fa.Cu O O<|wn<|bF O O<|aA<|ao<|ws<|wm O<|wo (aJ O<|wo (ab O Fa.uj<|wo (aj O (H.cell (i:=0) O O) A290 O<|wm O<|wo (az (Kd 193) O ((li q v lv A ls _ _ (H.part [1,2] O O) (fun w1 hf=>(hA) w1 (H.frPart (I:=[1,2]) O hf)) hb hn).mono (fun e w1 hq=>?_)))))))
 obtain ⟨v1,rfl,hq1⟩:=hq
 refine ⟨_,rfl,?_⟩
 have H1:=H.splice [1,2] [.blk q [(aa (hst (A++ls.flatten)).a),(aa (hst (A++ls.flatten)).b),(aa (hst (A++ls.flatten)).c),(aa (hst (A++ls.flatten)).d),(aa (hst (A++ls.flatten)).e),(aa (hst (A++ls.flatten)).f),(aa (hst (A++ls.flatten)).g),(aa (hst (A++ls.flatten)).h),v1,(vN (A++ls.flatten).length)] 325,.row v1 5 1 (hrest (A++ls.flatten)).length (Kg vU8 (hrest (A++ls.flatten)))] [] O O hq1 (am ae (am ae aI))
 exact wa O<|wn<|aC<|aD (.tmp O .nil) (⟨_,rfl,H1⟩)
theorem vp (m q:Nat) (v:Value) (B A:List UInt8) (w:World) (hM:cellsAt w m [(ptr q 0),(str B)]) (hQ:cellsAt w q [(aa (hst A).a),(aa (hst A).b),(aa (hst A).c),(aa (hst A).d),(aa (hst A).e),(aa (hst A).f),(aa (hst A).g),(aa (hst A).h),v,(vN A.length)]) (hV:Arr w v 1 (hrest A).length (Kg vU8 (hrest A))) (hb:A.length<2^40) (hB:B.length<2^30) :
  Calls Kf 155 #[(ptr m 0)] w (fun e w'=>e=.returned (str (sha (ce B 92++sha A)))∧Fr [] w w'):=by
 refine enter Tryz.func155 O O ?_
 have H0:=((((aL w []).oldB hM).oldB hQ).oldA hV)
 refine ws<|wa O<|wn<|ap<|ws<|wm O<|wo (bG Fa.Cu O O<|wn<|bF O O<|aA<|ao<|ws<|wo (az (Kd 191) O ((sY _).mono (fun e w1 hq=>?_))))
 obtain ⟨q1,rfl,hq1⟩:=hq
 refine ⟨_,rfl,?_⟩
 have H1:=H0.splice [] [] [.blk q1 [(aa (hst ([]:List UInt8)).a),(aa (hst ([]:List UInt8)).b),(aa (hst ([]:List UInt8)).c),(aa (hst ([]:List UInt8)).d),(aa (hst ([]:List UInt8)).e),(aa (hst ([]:List UInt8)).f),(aa (hst ([]:List UInt8)).g),(aa (hst ([]:List UInt8)).h),(.slice none 0 0),(vN ([]:List UInt8).length)] 325,.row (.slice none 0 0) 5 1 (hrest ([]:List UInt8)).length (Kg vU8 (hrest ([]:List UInt8)))] O O hq1 (am ae (am ae aI))
 refine wa O<|wn<|ap<|bn 12 Fa.M H1 (mh O<|mh O<|oh (fun w1 H1=>aJ O zr)<|oh (fun w1 H1=>ab O Fa.yF zr)<|oh (fun w1 H1=>aj O (H1.cellO (i:=0) O O) A9 O zr)<|oh (fun w1 H1=>az (Kd 194) O ((rc B 92 _ (by omega)).mono (fun e w2 hq=>⟨_,hq.1,rfl,hq.2⟩)))<|mh O<|oh (fun w1 H1=>aJ O zr)<|oh (fun w1 H1=>ab O Fa.uj zr)<|oh (fun w1 H1=>aj O (H1.cellO (i:=0) O O) A290 O zr)<|oh (fun w1 H1=>az (Kd 195) O ((qB q v A _ (H1.cellsAtO (i:=1) O) (H1.arrO (i:=2) O) (by first | exact hb | (simp [cz,dO]; omega))).mono (fun e w2 hq=>⟨_,hq.1,rfl,hq.2⟩)))<|HW.flt (mk:=fun bq=>.slice (some ⟨bq.1,0,none⟩) 2 2) (ent:=fun bq=>.row (.slice (some ⟨bq.1,0,none⟩) 2 2) _ _ _ _) O (fun w1 _=>aW (cs:=[_,_]) (aL w1 []) A59 Fa.I9 O O O O (by decide) (by decide) (fun bq w2 H2=>⟨(bq,undef),rfl,H2,ae⟩))  bD) (by kernel_rfl) ?_
 intro β4 w4 H4
 refine wo (az (Kd 193) O ((li q1 (.slice none 0 0) (.slice (some ⟨(β4 11).1,0,none⟩) 2 2) ([]:List UInt8) ([(ce B 92),(sha A)]) _ _ (H4.part [3,4] O O) (H4.stayR (I:=[3,4]) (k:=5) O O O) (by simp [cz,dO]; omega) (by simp)).mono (fun e w5 hq=>?_)))
 obtain ⟨v5,rfl,hq5⟩:=hq
 refine ⟨_,rfl,?_⟩
 have H5:=H4.splice [3,4] [.blk q1 [(aa (hst (([]:List UInt8)++[(ce B 92),(sha A)].flatten)).a),(aa (hst (([]:List UInt8)++[(ce B 92),(sha A)].flatten)).b),(aa (hst (([]:List UInt8)++[(ce B 92),(sha A)].flatten)).c),(aa (hst (([]:List UInt8)++[(ce B 92),(sha A)].flatten)).d),(aa (hst (([]:List UInt8)++[(ce B 92),(sha A)].flatten)).e),(aa (hst (([]:List UInt8)++[(ce B 92),(sha A)].flatten)).f),(aa (hst (([]:List UInt8)++[(ce B 92),(sha A)].flatten)).g),(aa (hst (([]:List UInt8)++[(ce B 92),(sha A)].flatten)).h),v5,(vN (([]:List UInt8)++[(ce B 92),(sha A)].flatten).length)] 325,.row v5 5 1 (hrest (([]:List UInt8)++[(ce B 92),(sha A)].flatten)).length (Kg vU8 (hrest (([]:List UInt8)++[(ce B 92),(sha A)].flatten)))] [] O O hq5 (am ae (am ae aI))
 refine wn<|ws<|wm O<|wo (cq H5 (Kd 195) O (qB q1 v5 (([]:List UInt8)++[(ce B 92),(sha A)].flatten) _ (H5.cellsAt (i:=3) O) (H5.arrR (i:=4) O) (by first | exact hb | (simp [cz,dO]; omega))) fun w6 H6=>?_)
 exact wa O<|wn<|aC<|aD (.tmp O .nil) (⟨by simp [tup],H6.fr⟩)
theorem DX (key text:List UInt8) (w:World) (hk:key.length<2^40) (ht:text.length<2^39) :
  Calls Kf 112 #[(str key),(str text)] w (fun e w'=>e=.returned (str (mac key text))∧Fr [] w w'):=by
 refine enter Tryz.func112 O O ?_
 have H0:=aL w []
 refine ws<|wa O<|wn<|ws<|wm O<|wo (az (Kd 153) O ((rr key _ hk).mono (fun e w1 hq=>?_)))
 obtain ⟨m1,q1,v1,rfl,hq1⟩:=hq
 refine ⟨_,rfl,?_⟩
 have H1:=H0.splice [] [] [.blk m1 [(ptr q1 0),(str (bB key))] 293,.blk q1 [(aa (hst (ce (bB key) 54)).a),(aa (hst (ce (bB key) 54)).b),(aa (hst (ce (bB key) 54)).c),(aa (hst (ce (bB key) 54)).d),(aa (hst (ce (bB key) 54)).e),(aa (hst (ce (bB key) 54)).f),(aa (hst (ce (bB key) 54)).g),(aa (hst (ce (bB key) 54)).h),v1,(vN (ce (bB key) 54).length)] 325,.row v1 5 1 (hrest (ce (bB key) 54)).length (Kg vU8 (hrest (ce (bB key) 54)))] O O hq1 (am ae (am ae (am ae aI)))
 refine wa O<|wn<|ws<|wm O<|wm O<|wo (aW (cs:=[_]) H1 A59 Fa.I9 O O O O (by decide) (by decide) (fun b2 w2 H2=>(wo (az (Kd 154) O ((vo m1 q1 v1 (.slice (some ⟨b2,0,none⟩) 1 1) (bB key) (ce (bB key) 54) ([text]) _ _ (H2.part [0,1,2] O O) (H2.stayR (I:=[0,1,2]) (k:=3) O O O) (by simp [cz,cj]; omega) (by simp)).mono (fun e w3 hq=>?_))))))
 obtain ⟨v3,rfl,hq3⟩:=hq
 refine ⟨_,rfl,?_⟩
 have H3:=H2.splice [0,1,2] [.blk m1 [(ptr q1 0),(str (bB key))] 293,.blk q1 [(aa (hst ((ce (bB key) 54)++[text].flatten)).a),(aa (hst ((ce (bB key) 54)++[text].flatten)).b),(aa (hst ((ce (bB key) 54)++[text].flatten)).c),(aa (hst ((ce (bB key) 54)++[text].flatten)).d),(aa (hst ((ce (bB key) 54)++[text].flatten)).e),(aa (hst ((ce (bB key) 54)++[text].flatten)).f),(aa (hst ((ce (bB key) 54)++[text].flatten)).g),(aa (hst ((ce (bB key) 54)++[text].flatten)).h),v3,(vN ((ce (bB key) 54)++[text].flatten).length)] 325,.row v3 5 1 (hrest ((ce (bB key) 54)++[text].flatten)).length (Kg vU8 (hrest ((ce (bB key) 54)++[text].flatten)))] [] O O hq3 (am ae (am ae (am ae aI)))
 exact wn<|ws<|wm O<|wo (cq H3 (Kd 155) O (vp m1 q1 v3 (bB key) ((ce (bB key) 54)++[text].flatten) _ (H3.cellsAt (i:=0) O) (H3.cellsAt (i:=1) O) (H3.arrR (i:=2) O) (by simp [cz,cj]; omega) (by rw [cj]; decide)) fun w4 H4=>(wa O<|wn<|aC<|aD (.tmp O .nil) (⟨by simp [tup,mac],H4.fr⟩)))
theorem zK (key text s:List UInt8) (w:World) (hk:key.length<2^40) (ht:text.length<2^39) :
  Calls Kf 115 #[(str key),(str text),(str s)] w (fun e w'=>e=.returned (.bool (decide (s=mac key text)))∧Fr [] w w'):=by
 refine enter Tryz.func115 O O ?_
 have H0:=aL w []
 have hl:=lI key text
 refine ws<|wa O<|wn<|ws<|wm O<|wm O<|wo (cq H0 (Kd 112) O (DX key text _ hk ht) fun w1 H1=>(wa O<|wn<|ap<|ws<|wm O<|wo (bH A9 O<|wm O<|wo (bH A9 O<|wo (bI O O<|wn (wE (s.length≠(mac key text).length) (fun hb2 hc2=>?_) (fun hb2 hc2=>?_)))))))
 ·
  exact ws<|wa O<|wn<|aC<|aq<|aD (.tmp O .nil) (⟨by rw [vn hc2]; rfl,H1.fr⟩)
 refine aA<|ao<|ws<|wa O<|wn<|ap<|ws<|wm O<|wo (bH A9 O<|wm O<|wn<|aB<|bi (α:=Nat) (fun k=>[(2,(str s)),(7,(str (mac key text))),(8,(vU8 (rd s (mac key text) k))),(19,(vN (mac key text).length)),(20,(vN k))]) (fun k w'=>(k≤(mac key text).length)∧Ke [] w w' []) (fun k=>(mac key text).length-k) 0 ⟨(by omega),H1⟩ ⟨rfl,rfl,rfl,rfl,rfl,trivial⟩ ?_)
 rintro k w3 ⟨hinv,H3⟩
 show WC _ _ _ _ _ [(2,(str s)),(7,(str (mac key text))),(8,(vU8 (rd s (mac key text) k))),(19,(vN (mac key text).length)),(20,(vN k))] _
 refine ws<|wo (bm O O<|wn<|ap (wE (k<(mac key text).length) (fun hb4 hc4=>?_) (fun hb4 hc4=>?_)))
 ·
  refine aA<|ao<|ap<|aB<|ws<|wm O<|wa O<|wn<|bn 10 Fa.M H3 (mh O<|mh O<|mh O<|oh (fun w1 H1=>cl A9 O O (by omega) zr)<|mh O<|mh O<|oh (fun w1 H1=>cl A9 O O (by omega) zr)<|oh (fun w1 H1=>gW O O zr)<|oh (fun w1 H1=>DJ O O zr)<|ah O  bD) (by kernel_rfl) ?_
  intro β5 w5 H5
  exact aY<|aE<|ao<|aG<|wo (aU (b:=1) O O (by omega)<|wm O<|aY<|aX (k+1) ⟨(by omega),H5⟩ ⟨rfl,rfl,rfl,rfl,rfl,trivial⟩ (by omega))
 exact bc<|an<|an<|aS<|ao<|ws<|wm O<|wo (gZ (b:=0) O O<|wa O<|wn<|aC<|aD (.tmp O .nil) (⟨by have hk2:k=(mac key text).length:=(by omega); subst hk2; rw [DI (by omega)]; rfl,H3.fr⟩))
theorem zk (key:List UInt8) (w:World) (hk:key.length<2^40) :
  Calls Kf 162 #[(str key)] w (fun e w'=>e=.returned (str (bB key))∧Fr [] w w'):=by
 refine enter Tryz.func162 O O ?_
 have H0:=aL w []
 refine ws<|wa O<|wn<|ap<|ws<|wm O<|wo (bH A9 O<|wo (cm (b:=64) O O<|wn (wE (key.length>64) (fun hb1 hc1=>?_) (fun hb1 hc1=>?_))))
 ·
  have hl:=dO key
  refine aG<|wm O<|wo (cq H0 (Kd 163) O (qt key _ hk) fun w2 H2=>(wa O<|wn<|ws<|wm O<|wm O<|wo (bH A9 O<|wo (bE (a:=64) O O (by omega) (by omega)<|wo (dj (f:=vU8) (c:=0) H2 A114 Fa.I5 O O (by omega) (by omega) (fun b3 w3 H3=>(wo (cD (l:=(Ki (64-(sha key).length) 0)) A114 A5 A9 O (H3.arrR (i:=0) O) O<|wo (fK O O (by first | omega | (rw [Kj]; omega) | (simp; omega)) ?_)))))))))
  exact wa O<|wn<|aC<|aD (.tmp O .nil) (⟨by rw [bB,pK,if_pos hc1]; rfl,H3.fr⟩)
 refine aA<|ao<|ws<|wm O<|wm O<|wo (bH A9 O<|wo (bE (a:=64) O O (by omega) (by omega)<|wo (dj (f:=vU8) (c:=0) H0 A114 Fa.I5 O O (by omega) (by omega) (fun b4 w4 H4=>(wo (cD (l:=(Ki (64-key.length) 0)) A114 A5 A9 O (H4.arrR (i:=0) O) O<|wo (fK O O (by first | omega | (rw [Kj]; omega) | (simp; omega)) ?_)))))))
 exact wa O<|wn<|aC<|aD (.tmp O .nil) (⟨by rw [bB,pK,if_neg hc1]; rfl,H4.fr⟩)
theorem uE (s:List UInt8) (c:UInt8) (w:World) (hs:s.length<2^40) :
  Calls Kf 164 #[(str s),(vU8 c)] w (fun e w'=>e=.returned (str (ce s c))∧Fr [] w w'):=by
 refine enter Tryz.func164 O O ?_
 have H0:=aL w []
 refine ws<|wa O<|wn<|ws<|wa O ?_
 have H1:=H0.nilRow 5 1
 refine wn<|ap<|ws<|wa O<|wn<|aB<|bi (α:=Nat × Value) (fun (k,v)=>[(0,(str s)),(1,(vU8 c)),(5,v),(6,(vN k))]) (fun (k,v) w'=>(k≤s.length)∧Ke [] w w' [.row v 5 1 k (Kg vU8 (jo s c k))]) (fun (k,v)=>s.length-k) (0,(.slice none 0 0)) ⟨(by omega),H1⟩ ⟨rfl,rfl,rfl,rfl,trivial⟩ ?_
 rintro ⟨k,v⟩ w2 ⟨hinv,H2⟩
 show WC _ _ _ _ _ [(0,(str s)),(1,(vU8 c)),(5,v),(6,(vN k))] _
 refine ap<|ws<|wm O<|wm O<|wo (bH A9 O<|wo (bm O O<|wn (wE (k<s.length) (fun hb3 hc3=>?_) (fun hb3 hc3=>?_))))
 ·
  exact aA<|ao<|ap<|aB<|aG<|wm O<|wm O<|wm O<|wo (cl A9 O O (by omega)<|wm O<|wo (gW O O<|wo (aW (cs:=[_]) H2 A114 Fa.I5 O O O O (by decide) (by decide) (fun b4 w4 H4=>(wo (cx (f:=vU8) (l:=(jo s c k)) (l':=[((s.getD k 0) ^^^ c)]) (i:=0) H4 A114 Fa.I5 O O O O (ck A114 (H4.arrR (i:=1) O)) (cV (fun _=>rfl)) (by omega) (by omega) (fun v5 w5 H5=>(wa O<|aY<|aE<|ao<|aG<|wm O<|wo (aU (b:=1) O O (by omega)<|wa O<|aY<|aX (k+1,v5) ⟨(by omega),(H5.take 1)⟩ ⟨rfl,rfl,rfl,rfl,trivial⟩ (by show s.length-(k+1)<s.length-k; omega))))))))))
 exact bc<|an<|an<|aS<|ao<|ws<|wm O<|wo (cD (l:=(jo s c k)) A114 A5 A9 O (H2.arrR (i:=0) O) O<|wa O<|wn<|aC<|aD (.tmp O .nil) (⟨by have hk:k=s.length:=(by omega); subst hk; rw [xh]; rfl,H2.fr⟩))
theorem Dr (key text:List UInt8) (w:World) (hk:key.length<2^40) (ht:text.length<2^39) :
  Calls Kf 118 #[(str key),(str text)] w (fun e w'=>e=.returned (str (mac key text))∧Fr [] w w'):=by
 refine enter Tryz.func118 O O ?_
 have H0:=aL w []
 refine ws<|wa O<|wn<|ws<|wm O<|wo (cq H0 (Kd 162) O (zk key _ hk) fun w1 H1=>(wa O<|wn<|ws<|wm O<|wo (cq H1 (Kd 164) O (uE (bB key) 92 _ (by rw [cj]; decide)) fun w2 H2=>(wm O<|wo (cq H2 (Kd 164) O (uE (bB key) 54 _ (by rw [cj]; decide)) fun w3 H3=>(wm O<|wo (fK O O (by simp [cz,cj]; omega)<|wo (cq H3 (Kd 163) O (qt ((ce (bB key) 54)++text) _ (by first | (simp [cz,cj]; omega) | (simp [cz,cj,dO]))) fun w4 H4=>?_))))))))
 refine wo (fK O O (by simp [cz,cj,dO])<|wo (cq H4 (Kd 163) O (qt ((ce (bB key) 92)++(sha ((ce (bB key) 54)++text))) _ (by first | (simp [cz,cj,dO]; omega) | (simp [cz,cj,dO]))) fun w5 H5=>?_))
 exact wa O<|wn<|aC<|aD (.tmp O .nil) (⟨rfl,H5.fr⟩)
end Go.Proofs.YtbjhccnffacbcaaGreat
namespace Go.Proofs
open Go.Shelf
def Tryz.lays105_ren:Go.Shelf.Ren:=⟨fun | 105=>152 | 212=>169 | 99=>188 | 165=>189 | 166=>106 | 170=>190 | 169=>109 | 263=>205 | 264=>206 | 206=>224 | 240=>150 | 241=>225 | 276=>186 | 277=>242 | n=>n,fun | 9=>9 | 3=>3 | 4=>4 | 20=>20 | 0=>0 | 46=>265 | 109=>266 | 5=>5 | 72=>175 | 76=>178 | 51=>22 | 146=>304 | 53=>154 | 148=>306 | 70=>173 | 37=>114 | 75=>177 | 127=>243 | 164=>285 | 80=>183 | n=>n,fun | n=>n⟩
theorem Tryz.lays105:Go.Proofs.Lays.n105 Tryz.prog Tryz.lays105_ren:={
 mixed:=by kernel_rfl
 f99:=Tryz.func188.trans (congrArg some (by kernel_rfl))
 f105:=Tryz.func152.trans (congrArg some (by kernel_rfl))
 f165:=Tryz.func189.trans (congrArg some (by kernel_rfl))
 f166:=Tryz.func106.trans (congrArg some (by kernel_rfl))
 f169:=Tryz.func109.trans (congrArg some (by kernel_rfl))
 f170:=Tryz.func190.trans (congrArg some (by kernel_rfl))
 f206:=Tryz.func224.trans (congrArg some (by kernel_rfl))
 f212:=Tryz.func169.trans (congrArg some (by kernel_rfl))
 f240:=Tryz.func150.trans (congrArg some (by kernel_rfl))
 f241:=Tryz.func225.trans (congrArg some (by kernel_rfl))
 f263:=Tryz.func205.trans (congrArg some (by kernel_rfl))
 f264:=Tryz.func206.trans (congrArg some (by kernel_rfl))
 f276:=Tryz.func186.trans (congrArg some (by kernel_rfl))
 f277:=Tryz.func242.trans (congrArg some (by kernel_rfl))
 t0:=Tryz.underlying0
 a0:=Tryz.isAgg0
 z0:=Tryz.sizeOf0
 v0:=Tryz.zeroValue0
 t3:=Tryz.underlying3
 a3:=Tryz.isAgg3
 z3:=Tryz.sizeOf3
 v3:=Tryz.zeroValue3
 t4:=Tryz.underlying4
 a4:=Tryz.isAgg4
 z4:=Tryz.sizeOf4
 v4:=Tryz.zeroValue4
 t5:=Tryz.underlying5
 a5:=Tryz.isAgg5
 z5:=Tryz.sizeOf5
 v5:=Tryz.zeroValue5
 t9:=Tryz.underlying9
 a9:=Tryz.isAgg9
 z9:=Tryz.sizeOf9
 v9:=Tryz.zeroValue9
 t20:=Tryz.underlying20
 a20:=Tryz.isAgg20
 z20:=Tryz.sizeOf20
 v20:=Tryz.zeroValue20
 t37:=Tryz.underlying114
 a37:=Tryz.isAgg114
 z37:=Tryz.sizeOf114
 v37:=Tryz.zeroValue114
 t46:=Tryz.underlying265
 a46:=Tryz.isAgg265
 z46:=Tryz.sizeOf265
 v46:=Tryz.zeroValue265
 t51:=Tryz.underlying22
 a51:=Tryz.isAgg22
 z51:=Tryz.sizeOf22
 v51:=Tryz.zeroValue22
 t53:=Tryz.underlying154
 a53:=Tryz.isAgg154
 z53:=Tryz.sizeOf154
 v53:=Tryz.zeroValue154
 t70:=Tryz.underlying173
 a70:=Tryz.isAgg173
 z70:=Tryz.sizeOf173
 v70:=Tryz.zeroValue173
 t72:=Tryz.underlying175
 a72:=Tryz.isAgg175
 z72:=Tryz.sizeOf175
 v72:=Tryz.zeroValue175
 t75:=Tryz.underlying177
 a75:=Tryz.isAgg177
 z75:=Tryz.sizeOf177
 v75:=Tryz.zeroValue177
 t76:=Tryz.underlying178
 a76:=Tryz.isAgg178
 z76:=Tryz.sizeOf178
 v76:=Tryz.zeroValue178
 t109:=Tryz.underlying266
 a109:=Tryz.isAgg266
 z109:=Tryz.sizeOf266
 v109:=Tryz.zeroValue266
 t127:=Tryz.underlying243
 a127:=Tryz.isAgg243
 z127:=Tryz.sizeOf243
 v127:=Tryz.zeroValue243
 t146:=Tryz.underlying304
 a146:=Tryz.isAgg304
 z146:=Tryz.sizeOf304
 v146:=Tryz.zeroValue304
 t148:=Tryz.underlying306
 a148:=Tryz.isAgg306
 z148:=Tryz.sizeOf306
 v148:=Tryz.zeroValue306
 t164:=Tryz.underlying285
 a164:=Tryz.isAgg285
 z164:=Tryz.sizeOf285
 v164:=Tryz.zeroValue285 }
end Go.Proofs
namespace Go.Proofs.YtbjhccnffacbcaaGreat
open Go.Owl Go.Spec
theorem Bx (x y:UInt64) (w:World) (h:x.toNat * y.toNat<2^64) :
  Calls Kf 169 #[cB x,cB y] w (fun e w'=>e=.returned (.tuple #[cB 0,cB (x * y)])∧Fr [] w w'):=by
 refine (Any.bits_Mul (ρ:=Tryz.lays105_ren) { Tryz.lays105 with } x.toNat y.toNat x.toNat_lt y.toNat_lt w).mono (fun e w' h2=>⟨?_,by rw [h2.2]; exact Fr.refl _ _⟩)
 rw [h2.1]
 have e1:x.toNat * y.toNat / 18446744073709551616=0:=Nat.div_eq_of_lt h
 have e2:x.toNat * y.toNat%18446744073709551616=(x * y).toNat:=by rw [UInt64.toNat_mul]
 rw [e1,e2]; rfl
theorem pR (lv:Value) (l:List UInt32) (w:World) (hA:Arr w lv 1 l.length (Kg aa l)) (hn:l.length<2^40) :
  Calls Kf 127 #[lv] w (fun e w'=> ∃v,e=.returned v∧Ke [] w w' [.row v 22 1 l.length (Kg aa l)]):=by
 refine enter Tryz.func127 O O ?_
 have H0:=aL w []
 refine ws<|wa O<|wn<|ap<|ws<|wm O<|wo (lD A73 O (H0.arr hA) O<|wn (wC (nE lv) (fun hb1=>?_) (fun hb1=>?_)))
 ·
  refine ws<|wa O<|wn<|aC<|aq<|aD (.tmp O .nil) ?_
  obtain rfl:l=[]:=List.eq_nil_of_length_eq_zero (hA.isNil0 hb1).1
  exact ⟨_,rfl,(H0.sel [] O O).nilRow 22 1⟩
 refine aA<|ao<|ws<|wo (aW (cs:=[]) H0 A73 Fa.I22 O O O O (by decide) (by decide) (fun b2 w2 H2=>(wm O<|wo (hZ (i:=0) H2 A73 Fa.I22 O O O O (ck A73 (H2.arr hA)) (by simp [Value.oneCell']) (by omega) (by omega) (fun v3 w3 H3=>(wa O<|wn<|aC<|aD (.tmp O .nil) ?_))))))
 have h:=H3.sel [0] O O
 rw [Nat.zero_add,List.nil_append] at h
 exact ⟨_,rfl,h⟩
theorem tx (pg:UInt32) (lv:Value) (he:List UInt32) (w:World) (hA:Arr w lv 1 he.length (Kg aa he)) (hn:he.length<2^40) :
  Calls Kf 168 #[(.agg #[(aa pg),lv])] w (fun e w'=>e=.returned (vN (gx pg he))∧Fr [] w w'):=by
 refine enter Tryz.func168 O O ?_
 have H0:=aL w []
 refine ws<|wo (bK H0 O O (fun b1 w1 H1=>(wa O<|wn<|ap<|ws<|wo (ab O Fa.CC<|wo (aj O (H1.cell (i:=0) O O) A22 O<|wo (cI (b:=4096) O O<|wm O (wF 8 (pg>(4096:UInt32)) (fun hb2 hc2=>?_) (fun hb2 hc2=>?_))))))))
 ·
  exact wN hb2<|wN hb2<|wN hb2<|wN hb2<|wo (aQ O hb2 O<|wn<|bX O O<|ws<|wa O<|wn<|aC<|aq<|aD (.tmp O .nil) (⟨by rw [gx,if_pos (.inl (dT hb2))]; rfl,H1.fr⟩))
 refine wY hb2 (ab O Fa.il<|wY hb2 (aj O (H1.cell (i:=0) O O) A73 O<|wY hb2 (bu A73 O (H1.arr hA)<|wY hb2 (cm (b:=16) O O<|wo (aN O hb2 O<|wn (wE (he.length>16) (fun hb3 hc3=>?_) (fun hb3 hc3=>?_)))))))
 ·
  exact ws<|wa O<|wn<|aC<|aq<|aD (.tmp O .nil) (⟨by rw [gx,if_pos (.inr (.inl (dT hb3)))]; rfl,H1.fr⟩)
 refine aA<|ao<|ap<|ws<|wo (ab O Fa.il<|wo (aj O (H1.cell (i:=0) O O) A73 O<|wo (bu A73 O (H1.arr hA)<|wm O<|wn<|aB<|bi (α:=Nat) (fun i=>[(0,(.agg #[(aa pg),lv])),(1,(ptr b1 0)),(15,lv),(16,(vN he.length)),(17,(vN i))]) (fun i w'=>(i≤he.length∧(∀j,j<i→¬he.getD j 0>1024))∧Ke [] w w' [.blk b1 [(aa pg),lv] 75]) (fun i=>he.length-i) 0 ⟨⟨Kk _,fun j h=>by omega⟩,H1⟩ ⟨rfl,rfl,rfl,rfl,rfl,trivial⟩ ?_)))
 rintro i w4 ⟨⟨hi1,hok⟩,H4⟩
 show WC _ _ _ _ _ [(0,(.agg #[(aa pg),lv])),(1,(ptr b1 0)),(15,lv),(16,(vN he.length)),(17,(vN i))] _
 refine ws<|wo (bm O O<|wn<|ap (wE (i<he.length) (fun hb5 hc5=>?_) (fun hb5 hc5=>?_)))
 ·
  refine aA<|ao<|ap<|aB<|ws<|wo (aF A73 Fa.I22 O (H4.arr hA) O (by omega)<|wo (aj O ((H4.arr hA).at (aR aa 0 (aV (H4.arr hA) (by omega)))) A22 O<|wa O<|wn<|ws<|wm O<|wo (cI (b:=1024) O O<|wn (wE ((he.getD i 0)>(1024:UInt32)) (fun hb6 hc6=>?_) (fun hb6 hc6=>?_)))))
  ·
   exact ws<|wa O<|wn<|aC<|aZ<|aq<|aq<|aZ<|aq<|aD (.tmp O .nil) (⟨by rw [gx,if_pos (.inr (.inr (eD (d:=0) (k:=i) (by omega) hb6)))]; rfl,H4.fr⟩)
  exact aA<|aE<|ao<|aG<|wo (aU (b:=1) O O (by omega)<|wm O<|aY<|aX (i+1) ⟨⟨by omega,fun j h=>by rcases Nat.lt_or_ge j i with h9 | h9; exact hok j h9; rw [show j=i by omega]; exact dF hb6⟩,H4⟩ ⟨rfl,rfl,rfl,rfl,rfl,trivial⟩ (by omega))
 exact bc<|an<|an<|aS<|ao<|ws<|wa O<|wn<|aC<|aD (.tmp O .nil) (⟨by rw [gx,if_neg (fun h=>h.elim (dF hb2) (fun h=>h.elim (dF hb3) (fun h=>by rw [ew (p:=fun x:UInt32=>decide (x>1024)) (d:=0) (fun j h1=>decide_eq_false (hok j (by omega)))] at h; cases h)))]; rfl,H4.fr⟩)
theorem yv (pg:UInt32) (lv:Value) (he:List UInt32) (w:World) (hA:Arr w lv 1 he.length (Kg aa he)) (hn:he.length<2^40) (hok0:gx pg he=0) :
  Calls Kf 126 #[(.agg #[(aa pg),lv])] w (fun e w'=> ∃c v mb,e=.returned (.tuple #[ptr c 0,vN 0])∧Ke [] w w' [.blk c [aa pg,v,.map (some mb)] 196,.row v 22 1 he.length (Kg aa he),.obj mb (mP .i64 [] 0)]):=by
 refine enter Tryz.func126 O O ?_
 have H0:=aL w []
 refine ws<|wo (bK H0 O O (fun b1 w1 H1=>(wa O<|wa O<|wn<|ap<|ws<|wo (aM (vs:=[_,_]) O (H1.cells (i:=0) O O) A75 O Fa.I75 O<|wo (cq H1 (Kd 168) O (tx pg _ he _ (H1.arr hA) hn) fun w2 H2=>(wa O<|wn<|ws<|wm O<|wo (bI (b:=0) O O<|wn<|bF O (decide_eq_false (fun h=>h hok0))<|aA<|ao<|ws<|wo (ab O Fa.il<|wo (aj O (H2.cell (i:=0) O O) A73 O<|wo (az (Kd 127) O ((pR _ he _ (H2.arr hA) hn).mono (fun e w3 hq=>?_))))))))))))
 obtain ⟨v3,rfl,hq3⟩:=hq
 refine ⟨_,rfl,?_⟩
 have H3:=H2.splice [] [] [.row v3 22 1 he.length (Kg aa he)] O O hq3 (am ae aI)
 exact wo (ab O Fa.il<|wo (bC (i:=0) H3 O O O O (bS (H3.arrR (i:=1) O)) Fa.I73 (fun w4 H4=>(wn<|ws<|wo (aM (vs:=[_,_]) O (H4.cells (i:=0) O O) A75 O Fa.I75 O<|wo (kI (kk:=.i64) H4 (fun b5 w5 H5=>(wo (bP (cs:=[_,_,_]) Fa.Io Fa.HE O O<|wo (bK H5 O O (fun b6 w6 H6=>(wa O<|wa O<|wn<|aC<|aD (.tmp O (.tmp O .nil)) (⟨_,_,_,rfl,H6.sel [3,1,2] O O⟩)))))))))))))
theorem wW (pg:UInt32) (lv:Value) (he:List UInt32) (w:World) (hA:Arr w lv 1 he.length (Kg aa he)) (hn:he.length<2^40) (hbad:gx pg he≠0) :
  Calls Kf 126 #[(.agg #[(aa pg),lv])] w (fun e w'=>e=.returned (.tuple #[.pointer none,vN 2])∧Fr [] w w'):=by
 refine enter Tryz.func126 O O ?_
 have H0:=aL w []
 exact ws<|wo (bK H0 O O (fun b1 w1 H1=>(wa O<|wa O<|wn<|ap<|ws<|wo (aM (vs:=[_,_]) O (H1.cells (i:=0) O O) A75 O Fa.I75 O<|wo (cq H1 (Kd 168) O (tx pg _ he _ (H1.arr hA) hn) fun w2 H2=>(wa O<|wn<|ws<|wm O<|wo (bI (b:=0) O O<|wn<|bX O (decide_eq_true hbad)<|ws<|wm O<|wa O<|wa O<|wn<|aC<|aq<|aD (.tmp O (.tmp O .nil)) (⟨by rw [Ez hbad]; rfl,H2.fr⟩))))))))
theorem zI  (w:World) :
  Calls Kf 128 #[] w (fun e w'=> ∃q mb,e=.returned (ptr q 0)∧Ke [] w w' [.blk q [.map (some mb),.slice none 0 0,vN 0] 264,.obj mb (mP .u16 [] 0)]):=by
 refine enter Tryz.func128 O O ?_
 have H0:=aL w []
 exact ws<|wa O<|wn<|ws<|wo (kI (kk:=.u16) H0 (fun b1 w1 H1=>(wo (bP (cs:=[_,_,_]) Fa.Ih Fa.Hz O O<|wo (bK H1 O O (fun b2 w2 H2=>(wa O<|wn<|aC<|aD (.tmp O .nil) (⟨_,_,rfl,H2.sel [1,0] O O⟩))))))))
theorem lx (lv:Value) (z:List UInt8) (c:Nat) (w:World) (hA:Arr w lv 1 1 (Kg str [z])) (hc:c<2^32) :
  Calls Kf 129 #[lv,(vN c)] w (fun e w'=> ∃v,e=.returned v∧Ke [] w w' [.row v 9 1 c (Kg str (Ki c z))]):=by
 refine enter Tryz.func129 O O ?_
 have H0:=aL w []
 have hc1:(Kn 1).toNat=1:=rfl
 have hc2:(Kn c).toNat=c:=by rw [UInt64.toNat_ofNat']; exact Nat.mod_eq_of_lt (by omega)
 have hcc:(Kn 1 * Kn c).toNat=c:=by rw [UInt64.toNat_mul,hc1,hc2,Nat.one_mul]; exact Nat.mod_eq_of_lt (by omega)
 refine ws<|wa O<|wn<|ap<|ws<|wm O<|wo (bm (b:=0) O O<|wn<|bF O (decide_eq_false (by omega))<|aA<|ao<|ws<|wm O<|wo (bu A59 O (H0.arr hA)<|wo (dq (hs:=A3) (hd:=A265) O<|wm O<|wo (dq (hs:=A3) (hd:=A265) O<|wo (cq H0 (Kd 169) O (Bx (Kn 1) (Kn c) _ (by rw [hc1,hc2]; omega)) fun w1 H1=>(wm O<|we O O<|we O O<|wa O<|wa O<|wn<|ap<|ws<|wm O<|wo (km (a:=0) (b:=0) O O<|wm O<|bL O O O (decide_eq_false (by decide)) O (au O<|bL O O O (decide_eq_false (by decide)) O (km (b:=9223372036854775807) O O<|wo (aN O (decide_eq_false (by decide)) O<|wn<|bF O (decide_eq_false (by rw [gt_iff_lt,UInt64.lt_iff_toNat_lt,hcc]; show ¬9223372036854775807<c; omega))<|aA<|ao<|ws<|wm O<|wo (oF (hs:=A265) (hd:=A3) O (by rw [hcc]; omega) ?_)))))))))))
 rw [hcc]
 refine wo (dj (f:=str) (c:=[]) H1 A59 Fa.I9 O O (by omega) (by omega) (fun b2 w2 H2=>(wa O<|wn<|ws<|wm O<|wm O<|wo (sT (i:=0) (f:=str) (l:=(Ki c [])) (r:=[z]) H2 A59 Fa.I9 O O (SrcC.ofArr (H2.arr hA)) O (Sub.self (H2.arrR (i:=0) O)) (by omega) O (fun _=>rfl) (fun w3 H3=>(wa O<|wn<|ap<|aB<|bi (α:=Nat × List (List UInt8)) (fun (d,l1)=>[(7,(.slice (some ⟨b2,0,none⟩) c c)),(8,(vN d))]) (fun (d,l1) w'=>(d≤c∧(0<c→0<d)∧l1=Ki d z++Ki (c-d) [])∧Ke [] w w' [.row (.slice (some ⟨b2,0,none⟩) c c) 9 1 c (Kg str l1)]) (fun (d,l1)=>c-d) (min 1 c,((Ki c []).take 0++([z].take (min 1 c)++(Ki c []).drop (0+(min 1 c))))) ⟨⟨by omega,by omega,by rcases Nat.eq_zero_or_pos c with h | h; subst h; rfl; rw [show min 1 c=1 by omega]; obtain ⟨q,rfl⟩: ∃q,c=q+1:=⟨c-1,by omega⟩; rfl⟩,H3⟩ ⟨rfl,rfl,trivial⟩ ?_))))))
 rintro ⟨d,l1⟩ w4 ⟨⟨hd1,hd2,hl1⟩,H4⟩
 show WC _ _ _ _ _ [(7,(.slice (some ⟨b2,0,none⟩) c c)),(8,(vN d))] _
 refine ap<|ws<|wm O<|wm O<|wo (bu A59 O (H4.arrR (i:=0) O)<|wo (bm O O<|wn (wE (d<c) (fun hb5 hc5=>?_) (fun hb5 hc5=>?_))))
 ·
  refine aA<|ao<|aB<|WC.held 10 O Fa.M H4 (fun w'=> ∃L',Ke [] w w' ([]++L')) ?_
  intro w6 H6
  refine xt 0 O (vN d) H6 (fun _ _ HX=>au O ⟨rfl,rfl⟩)<|xt 1 O (.slice (some ⟨b2,0,none⟩) c c) H6 (fun _ _ HX=>au O ⟨rfl,rfl⟩)<|xt 2 O (vN d) H6 (fun _ _ HX=>au O ⟨rfl,rfl⟩)<|xt 4 O (.slice (some ⟨b2,0,none⟩) c c) H6 (fun _ _ HX=>au O ⟨rfl,rfl⟩)<|xt 5 O (vN d) H6 (fun _ _ HX=>au O ⟨rfl,rfl⟩)<|dh (fun W hW=>?_)
  let e9:List (Nat × Value)→List (Nat × Value):=fun r=>(7,(.slice (some ⟨b2,0,none⟩) c c))::(34,(vN d))::(35,(.slice (some ⟨b2,0,none⟩) c c))::(36,(vN c))::(37,(.bool (decide (d<c))))::r
  let Bm:Ent:=.row (.slice (some ⟨b2,0,none⟩) c c) 9 1 c (Kg str l1)
  have B1: ∀wS,Ke [] w wS [.row (.slice (some ⟨b2,0,none⟩) c c) 9 1 c (Kg str (l1.take d++((l1.take d).take (min d (c-d))++l1.drop (d+(min d (c-d))))))]→W 0 (bz 10 1023) (e9 [(8,(vN (d+(min d (c-d)))))]) wS:=fun wS HS=>by
   rw [hW]
   exact WH.done (by kernel_rfl)<|aE<|aX ((d+(min d (c-d))),(l1.take d++((l1.take d).take (min d (c-d))++l1.drop (d+(min d (c-d)))))) ⟨⟨by omega,by omega,by rw [hl1]; exact zi hd1 (by omega)⟩,HS⟩ ⟨rfl,rfl,trivial⟩ (by show c-(d+(min d (c-d)))<c-d; omega)
  have B0: ∀wS,Ke [] w wS [Bm]→W 3 (bz 10 127) (e9 [(8,(vN d)),(38,(vN d)),(41,(fT (.slice (some ⟨b2,0,none⟩) c c) d c 1)),(44,(fT (.slice (some ⟨b2,0,none⟩) c c) 0 d 1))]) wS:=fun wS HS=>by
   rw [hW]
   refine wh1 7<|kH 7 O (sT (i:=0) (f:=str) (l:=l1) (r:=(l1.take d)) HS A59 Fa.I9 O O (SrcC.ofArr (((HS.arrR (i:=0) O)).cutHiM (f:=str) (l:=l1) (b:=d) (by omega))) O (Sub.cut (a:=d) (b:=c) (HS.arrR (i:=0) O) (by omega) (by omega)) (by omega) O (fun _=>rfl) (fun w7 H7=>(⟨⟨_,H7⟩,?_⟩)))
   exact xt 8 O (vN (d+(min d (c-d)))) H7 (fun _ _ HX=>aU O O (by omega) ⟨rfl,rfl⟩)<|xt 9 O (vN (d+(min d (c-d)))) H7 (fun _ _ HX=>ee O ⟨rfl,rfl⟩)<|bh hW (B1 w7 H7)
  have B2: ∀wS,Ke [] w wS [Bm]→W 4 (bz 10 63) (e9 [(8,(vN d)),(38,(vN d)),(41,(fT (.slice (some ⟨b2,0,none⟩) c c) d c 1)),(42,(.slice (some ⟨b2,0,none⟩) c c)),(43,(vN d))]) wS:=fun wS HS=>by
   rw [hW]
   refine wh1 6<|kH 6 O (hU A59 Fa.I9 O (HS.arrR (i:=0) O) O (by omega) (⟨⟨_,HS⟩,?_⟩))
   exact bh hW (B0 wS HS)
  have B3: ∀wS,Ke [] w wS [Bm]→W 4 (bz 10 119) (e9 [(8,(vN d)),(38,(vN d)),(39,(.slice (some ⟨b2,0,none⟩) c c)),(40,(vN d)),(44,(fT (.slice (some ⟨b2,0,none⟩) c c) 0 d 1))]) wS:=fun wS HS=>by
   rw [hW]
   refine wh1 3<|kH 3 O (jL A59 Fa.I9 O (HS.arrR (i:=0) O) O (by omega) (⟨⟨_,HS⟩,?_⟩))
   exact bh hW (B0 wS HS)
  have B4: ∀wS,Ke [] w wS [Bm]→W 5 (bz 10 55) (e9 [(8,(vN d)),(38,(vN d)),(39,(.slice (some ⟨b2,0,none⟩) c c)),(40,(vN d)),(42,(.slice (some ⟨b2,0,none⟩) c c)),(43,(vN d))]) wS:=fun wS HS=>by
   rw [hW]
   refine wh2 3 6 ?_ ?_
   ·
    refine kH 3 O (jL A59 Fa.I9 O (HS.arrR (i:=0) O) O (by omega) (⟨⟨_,HS⟩,?_⟩))
    exact bh hW (B2 wS HS)
   refine kH 6 O (hU A59 Fa.I9 O (HS.arrR (i:=0) O) O (by omega) (⟨⟨_,HS⟩,?_⟩))
   exact bh hW (B3 wS HS)
  have hq:=B4 w6 H6
  rw [hW] at hq ⊢
  exact WH.cv hq
 refine bc<|an<|an<|aS<|ao<|ws<|wm O<|wa O<|wn<|aC<|aD (.tmp O .nil) ?_
 obtain rfl:d=c:=by omega
 exact ⟨_,rfl,Own.rowEq (i:=0) (f:=str) (H4.sel [0] O O) O (by rw [hl1,Nat.sub_self,List.replicate_zero,List.append_nil])⟩
theorem nH (c:Nat) (pg:UInt32) (hv:Value) (he:List UInt32) (mb cn:Nat) (gs:List Gr) (w:World) (hC:cellsAt w c [(aa pg),hv,(.map (some mb))]) (hH:Arr w hv 1 he.length (Kg aa he)) (hM:w.heap[mb]?=some (mP .i64 (Kg Gr.me gs) cn)) (hG:BsOK 199 Gr.cells Gr.b gs w) (hS:grD.list.ok w gs) (hME:MEok (Kg Gr.me gs) cn)  :
  Calls Kf 60 #[(ptr c 0)] w (fun e w'=>e=.returned (aa (cg pg gs))∧Fr [] w w'):=by
 refine enter Tryz.func60 O O ?_
 have H0:=((((((aL w []).oldB hC).oldA hH).mpOld hM).bsOld hG).dpOld hS)
 refine ws<|wa O<|wn<|ap<|ws<|wm O<|wo (bG Fa.jm O O<|wn<|bF O O<|aA<|ao<|ws<|wm O<|wo (aJ O<|wo (ab O Fa.nT<|wo (ab O Fa.CC<|wo (aj O (H0.cellO (i:=0) O O) A22 O<|wa O<|wn<|ap<|ws<|wm O<|wo (aJ O<|wo (ab O Fa.gA<|wo (aj O (H0.cellO (i:=0) O O) A194 O<|wo (ki H0 (H0.mpO (i:=2) O) A194 O (fun b1 w1 H1=>(wn<|aB<|bi (α:=List Gr × List Gr) (fun (sn,rst)=>[(0,(ptr c 0)),(3,(aa (cg pg sn))),(17,(ptr b1 0))]) (fun (sn,rst) w'=>(gs.Perm (sn++rst))∧Ke [] w w' [Ent.bo c [(aa pg),hv,(.map (some mb))],Ent.ar hv 1 he.length (Kg aa he),Ent.mo .i64 mb (Kg Gr.me gs) cn,Ent.bsO 199 Gr.cells Gr.b gs,Ent.dp grD.list gs,.obj b1 (itO mb cn (Kg Gr.me sn))]) (fun (sn,rst)=>rst.length) ([],gs) ⟨(List.Perm.refl _),H1⟩ ⟨rfl,(by rw [zX]; rfl),rfl,trivial⟩ ?_)))))))))))
 rintro ⟨sn,rst⟩ w2 ⟨hpm,H2⟩
 show WC _ _ _ _ _ [(0,(ptr c 0)),(3,(aa (cg pg sn))),(17,(ptr b1 0))] _
 refine ws<|wo (oE (i:=5) (sn:=sn) (rest:=rst) H2 O (H2.mpO (i:=2) O) hME hpm O (fun h0=>?_) (fun g3 rs3 hl3 hp3 w3 H3=>?_))
 ·
  exact we O O<|wn<|ap<|bF O O<|bc<|an<|an<|aS<|ao<|ws<|wm O<|wa O<|wn<|aC<|aD (.tmp O .nil) (⟨by rw [h0,List.append_nil] at hpm; rw [yo hpm]; rfl,H2.fr⟩)
 have H4:=(((H3.bsView (i:=3) (a:=g3) O (hp3.mem_iff.2 (by simp))).dpView (i:=4) (a:=g3) O (hp3.mem_iff.2 (by simp)) (fun w h=>h.1) (fun b hb=>List.mem_append.2 (.inl hb))).dpView (i:=4) (a:=g3) O (hp3.mem_iff.2 (by simp)) (fun w h=>h.2) (fun b hb=>List.mem_append.2 (.inr hb)))
 refine we O O<|wn<|ap<|bX O O<|aA<|ao<|aB<|ws<|wo (mH (i:=5) (sn:=sn) (g:=g3) H4 O (H4.mpO (i:=2) O) hME hp3 O<|we O O<|wa O<|wn<|bn 13 Fa.M H4 (mh O<|mh O<|oh (fun w1 H1=>aJ O zr)<|oh (fun w1 H1=>ab O Fa.jv zr)<|oh (fun w1 H1=>ab O Fa.im zr)<|oh (fun w1 H1=>aj O (H1.cellO (i:=6) O O) A22 O zr)<|mh O<|oh (fun w1 H1=>aJ O zr)<|oh (fun w1 H1=>ab O Fa.Gu zr)<|oh (fun w1 H1=>aj O (H1.cellO (i:=6) O O) A22 O zr)<|oh (fun w1 H1=>bW O O zr)<|oh (fun w1 H1=>gY O O zr)<|ah O  bD) (by kernel_rfl) ?_)
 intro β5 w5 H5
 exact aY<|aE<|aX ((sn++[g3]),rs3) ⟨hp3,(H5.take 6)⟩ ⟨rfl,(by rw [pO]; rfl),rfl,trivial⟩ (by show rs3.length<rst.length; omega)
theorem Bp (c:Nat) (pg:UInt32) (hv:Value) (he:List UInt32) (mb cn:Nat) (gs:List Gr) (env:Int) (w:World) (hC:cellsAt w c [(aa pg),hv,(.map (some mb))]) (hH:Arr w hv 1 he.length (Kg aa he)) (hM:w.heap[mb]?=some (mP .i64 (Kg Gr.me gs) cn)) (hG:BsOK 199 Gr.cells Gr.b gs w) (hS:grD.list.ok w gs) (_hME:MEok (Kg Gr.me gs) cn) (no: ∀g∈gs,(g.e:Int)≠env) :
  Calls Kf 170 #[(ptr c 0),(vI env)] w (fun e w'=> ∃b,e=.returned (.tuple #[ptr b 0,.bool false])∧Ke [] w w' [.blk b [aa 0,.slice none 0 0,.slice none 0 0,.bool false,aa 0,aa 0] 199]):=by
 refine enter Tryz.func170 O O ?_
 have H0:=((((((aL w []).oldB hC).oldA hH).mpOld hM).bsOld hG).dpOld hS)
 exact ws<|wa O<|wa O<|wn<|ap<|ws<|wm O<|wo (bG Fa.jm O O<|wm O<|wY O (au O<|wY O (aJ O<|wY O (ab O Fa.gA<|wY O (aj O (H0.cellO (i:=0) O O) A194 O<|wY O (au O<|wY O (gH (H0.mpO (i:=2) O) no A194 A3 Fa.yA O O<|wY O (bG Fa.mS O O<|wo (aN O O O<|wn<|bX O O<|ws<|wo (bP (cs:=[_,_,_,_,_,_]) Fa.Gk Fa.Cy O O<|wo (bK H0 O O (fun b1 w1 H1=>(wa O<|wa O<|wn<|aC<|aq<|aD (.tmp O (.tmp O .nil)) (⟨_,rfl,H1.sel [5] O O⟩))))))))))))))
theorem vj (c:Nat) (pg:UInt32) (hv:Value) (he:List UInt32) (mb cn:Nat) (gs:List Gr) (env:Int) (g:Gr) (w:World) (hC:cellsAt w c [(aa pg),hv,(.map (some mb))]) (hH:Arr w hv 1 he.length (Kg aa he)) (hM:w.heap[mb]?=some (mP .i64 (Kg Gr.me gs) cn)) (hG:BsOK 199 Gr.cells Gr.b gs w) (hS:grD.list.ok w gs) (hME:MEok (Kg Gr.me gs) cn) (hg:g∈gs) (hge:(g.e:Int)=env) :
  Calls Kf 170 #[(ptr c 0),(vI env)] w (fun e w'=>e=.returned (.tuple #[ptr g.b 0,.bool true])∧Fr [] w w'):=by
 refine enter Tryz.func170 O O ?_
 have H0:=((((((aL w []).oldB hC).oldA hH).mpOld hM).bsOld hG).dpOld hS)
 refine ws<|wa O<|wa O<|wn<|ap<|ws<|wm O<|wo (bG Fa.jm O O<|wm O<|wY O (au O<|wY O (aJ O<|wY O (ab O Fa.gA<|wY O (aj O (H0.cellO (i:=0) O O) A194 O<|wY O (au O ?_))))))
 have H1:=(((H0.bsView (i:=3) (a:=g) O hg).dpView (i:=4) (a:=g) O hg (fun w h=>h.1) (fun b hb=>List.mem_append.2 (.inl hb))).dpView (i:=4) (a:=g) O hg (fun w h=>h.2) (fun b hb=>List.mem_append.2 (.inr hb)))
 exact wY O (fO (g:=g) (H0.mpO (i:=2) O) hME hg hge A194 A3 O O<|wY O (bG Fa.mS O O<|wo (aN O O O<|wn<|bF O O<|aA<|ao<|ws<|wm O<|wo (aJ O<|wo (ab O Fa.gA<|wo (aj O (H1.cellO (i:=0) O O) A194 O<|wm O<|wo (fO (g:=g) (H1.mpO (i:=2) O) hME hg hge A194 A3 O O<|wa O<|wa O<|wn<|aC<|aD (.tmp O (.tmp O .nil)) (⟨rfl,H1.fr⟩))))))))
theorem Ao (x:Xt) (w:World) :
  Calls Kf 136 #[(.agg #[(aa x.id),(aa x.bl)])] w (fun e w'=>e=.returned (.bool (eV x))∧Fr [] w w'):=by
 refine enter Tryz.func136 O O ?_
 have H0:=aL w []
 refine ws<|wo (bK H0 O O (fun b1 w1 H1=>(wa O<|wn<|ws<|wo (ab O Fa.ey<|wo (aj O (H1.cell (i:=0) O O) A22 O<|wo (dM (b:=16) O O<|wm O (wF 6 (x.id≥(16:UInt32)) (fun hb2 hc2=>?_) (fun hb2 hc2=>?_))))))))
 ·
  exact wN hb2<|wN hb2<|wN hb2<|wo (aQ O hb2 O<|wm O<|wN O<|wN O<|wN O<|wo (aQ O O O<|wa O<|wn<|aC<|aD (.tmp O .nil) (⟨by (rw [eV,hb2])<;>rfl,H1.fr⟩)))
 refine wY hb2 (ab O Fa.fW<|wY hb2 (aj O (H1.cell (i:=0) O O) A22 O<|wY hb2 (ed (b:=1) O O<|wo (aN O hb2 O<|wm O (wF 11 (x.bl<(1:UInt32)) (fun hb3 hc3=>?_) (fun hb3 hc3=>?_))))))
 ·
  exact wN hb3<|wN hb3<|wN hb3<|wo (aQ O hb3 O<|wa O<|wn<|aC<|aD (.tmp O .nil) (⟨by (rw [eV,hb2,hb3])<;>rfl,H1.fr⟩))
 exact wY hb3 (ab O Fa.fW<|wY hb3 (aj O (H1.cell (i:=0) O O) A22 O<|wY hb3 (cI (b:=1024) O O<|wo (aN O hb3 O<|wa O<|wn<|aC<|aD (.tmp O .nil) (⟨by (rw [eV,hb2,hb3])<;>rfl,H1.fr⟩)))))
theorem CP (x y:Xt) (w:World) :
  Calls Kf 138 #[(.agg #[(aa x.id),(aa x.bl)]),(.agg #[(aa y.id),(aa y.bl)])] w (fun e w'=>e=.returned (.bool (lh x y))∧Fr [] w w'):=by
 refine enter Tryz.func138 O O ?_
 have H0:=aL w []
 exact ws<|wo (bK H0 O O (fun b1 w1 H1=>(wo (bK H1 O O (fun b2 w2 H2=>(wa O<|wn<|ws<|wo (ab O Fa.ey<|wo (aj O (H2.cell (i:=0) O O) A22 O<|wo (ab O Fa.ey<|wo (aj O (H2.cell (i:=1) O O) A22 O<|wo (ed O O<|wa O<|wn<|aC<|aD (.tmp O .nil) (⟨rfl,H2.fr⟩))))))))))))
theorem AB (x y:UInt16) (w:World) :
  Calls Kf 140 #[(bA x),(bA y)] w (fun e w'=>e=.returned (.bool (jy x y))∧Fr [] w w'):=by
 refine enter Tryz.func140 O O ?_
 have H0:=aL w []
 exact ws<|wa O<|wn<|ws<|wm O<|wm O<|wo (zA O O<|wa O<|wn<|aC<|aD (.tmp O .nil) (⟨rfl,H0.fr⟩))
theorem Eu (lv:Value) (l:List Xt) (w:World) (hA:Arr w lv 2 l.length (Kh xtc l)) (hn:l.length<2^47) :
  Calls Kf 177 #[lv,(.func (.func 136) #[] #[])] w (fun e w'=>e=.returned (vI (gD eV l))∧Fr [] w w'):=by
 refine enter Tryz.func177 O O ?_
 have H0:=aL w []
 refine ws<|wa O<|wn<|ap<|ws<|wm O<|wo (bu A37 O (H0.arr hA)<|wm O<|wn<|aB<|bi (α:=Nat) (fun k=>[(0,lv),(1,(.func (.func 136) #[] #[])),(7,(vN l.length)),(8,(vN k))]) (fun k w'=>(k≤l.length∧(∀j,j<k→eV (l.getD j Xt.zero)=false))∧Ke [] w w' []) (fun k=>l.length-k) 0 ⟨⟨Kk _,fun j h=>by omega⟩,H0⟩ ⟨rfl,rfl,rfl,rfl,trivial⟩ ?_)
 rintro k w1 ⟨⟨hk1,hok⟩,H1⟩
 show WC _ _ _ _ _ [(0,lv),(1,(.func (.func 136) #[] #[])),(7,(vN l.length)),(8,(vN k))] _
 refine ws<|wo (bm O O<|wn<|ap (wE (k<l.length) (fun hb2 hc2=>?_) (fun hb2 hc2=>?_)))
 ·
  refine aA<|ao<|ap<|aB<|ws<|wm O<|wa O<|wn<|ws<|wm O<|wm O<|wm O<|wo (bJ A37 Fa.cR O (H1.arr hA) O (by omega)<|wo (cH (vs:=xtc (l.getD k Xt.zero)) O (Arr.atsF (H1.arr hA) (fun _=>rfl) (by decide) Xt.zero (by omega)) A207 O Fa.cR O<|wo (gh (f:=136) O (Kd 136) O ((Ao (l.getD k Xt.zero) _).mono (fun e w3 hq=>?_)))))
  obtain ⟨rfl,hf3⟩:=hq
  refine ⟨_,rfl,?_⟩
  have H3:=H1.fr' hf3
  refine wn (wC (eV (l.getD k Xt.zero)) (fun hb4=>?_) (fun hb4=>?_))
  ·
   exact ws<|wm O<|wa O<|wn<|aC<|aZ<|aq<|aq<|aZ<|aq<|aD (.tmp O .nil) (⟨by rw [lW (d:=Xt.zero) (by omega) hok hb4]; rfl,H3.fr⟩)
  exact aA<|aE<|ao<|aG<|wo (aU (b:=1) O O (by omega)<|wm O<|aY<|aX (k+1) ⟨⟨by omega,cL hok hb4⟩,H3⟩ ⟨rfl,rfl,rfl,rfl,trivial⟩ (by omega))
 exact bc<|an<|an<|aS<|ao<|ws<|wa O<|wn<|aC<|aD (.tmp O .nil) (⟨by rw [lg (d:=Xt.zero) (fun j hj=>hok j (by omega))]; rfl,H1.fr⟩)
theorem BJ (lv:Value) (l:List UInt16) (y:UInt16) (w:World) (hA:Arr w lv 1 l.length (Kg bA l)) (hn:l.length<2^47) :
  Calls Kf 178 #[lv,(bA y)] w (fun e w'=>e=.returned (vI (gD (gG y) l))∧Fr [] w w'):=by
 refine enter Tryz.func178 O O ?_
 have H0:=aL w []
 refine ws<|wa O<|wn<|ap<|ws<|wm O<|wo (bu A38 O (H0.arr hA)<|wm O<|wn<|aB<|bi (α:=Nat) (fun k=>[(0,lv),(1,(bA y)),(7,(vN l.length)),(8,(vN k))]) (fun k w'=>(k≤l.length∧(∀j,j<k→(gG y) (l.getD j 0)=false))∧Ke [] w w' []) (fun k=>l.length-k) 0 ⟨⟨Kk _,fun j h=>by omega⟩,H0⟩ ⟨rfl,rfl,rfl,rfl,trivial⟩ ?_)
 rintro k w1 ⟨⟨hk1,hok⟩,H1⟩
 show WC _ _ _ _ _ [(0,lv),(1,(bA y)),(7,(vN l.length)),(8,(vN k))] _
 refine ws<|wo (bm O O<|wn<|ap (wE (k<l.length) (fun hb2 hc2=>?_) (fun hb2 hc2=>?_)))
 ·
  refine aA<|ao<|ap<|aB<|ws<|wm O<|wa O<|wn<|ws<|wm O<|wm O<|wm O<|wo (aF A38 Fa.fV O (H1.arr hA) O (by omega)<|wo (aj O ((H1.arr hA).at (aR bA 0 (aV (H1.arr hA) (by omega)))) A203 O<|wo (iZ O O<|wn (wE (y=(l.getD k 0)) (fun hb3 hc3=>?_) (fun hb3 hc3=>?_)))))
  ·
   exact ws<|wm O<|wa O<|wn<|aC<|aZ<|aq<|aq<|aZ<|aq<|aD (.tmp O .nil) (⟨by rw [lW (d:=0) (by omega) hok hb3]; rfl,H1.fr⟩)
  exact aA<|aE<|ao<|aG<|wo (aU (b:=1) O O (by omega)<|wm O<|aY<|aX (k+1) ⟨⟨by omega,cL hok hb3⟩,H1⟩ ⟨rfl,rfl,rfl,rfl,trivial⟩ (by omega))
 exact bc<|an<|an<|aS<|ao<|ws<|wa O<|wn<|aC<|aD (.tmp O .nil) (⟨by rw [lg (d:=0) (fun j hj=>hok j (by omega))]; rfl,H1.fr⟩)
theorem Ex (lv:Value) (l:List UInt8) (y:UInt8) (w:World) (hA:Arr w lv 1 l.length (Kg vU8 l)) (hn:l.length<2^47) :
  Calls Kf 179 #[lv,(vU8 y)] w (fun e w'=>e=.returned (vI (gD (rT y) l))∧Fr [] w w'):=by
 refine enter Tryz.func179 O O ?_
 have H0:=aL w []
 refine ws<|wa O<|wn<|ap<|ws<|wm O<|wo (bu A114 O (H0.arr hA)<|wm O<|wn<|aB<|bi (α:=Nat) (fun k=>[(0,lv),(1,(vU8 y)),(7,(vN l.length)),(8,(vN k))]) (fun k w'=>(k≤l.length∧(∀j,j<k→(rT y) (l.getD j 0)=false))∧Ke [] w w' []) (fun k=>l.length-k) 0 ⟨⟨Kk _,fun j h=>by omega⟩,H0⟩ ⟨rfl,rfl,rfl,rfl,trivial⟩ ?_)
 rintro k w1 ⟨⟨hk1,hok⟩,H1⟩
 show WC _ _ _ _ _ [(0,lv),(1,(vU8 y)),(7,(vN l.length)),(8,(vN k))] _
 refine ws<|wo (bm O O<|wn<|ap (wE (k<l.length) (fun hb2 hc2=>?_) (fun hb2 hc2=>?_)))
 ·
  refine aA<|ao<|ap<|aB<|ws<|wm O<|wa O<|wn<|ws<|wm O<|wm O<|wm O<|wo (aF A114 Fa.I5 O (H1.arr hA) O (by omega)<|wo (aj O ((H1.arr hA).at (aR vU8 0 (aV (H1.arr hA) (by omega)))) A5 O<|wo (gZ O O<|wn (wE (y=(l.getD k 0)) (fun hb3 hc3=>?_) (fun hb3 hc3=>?_)))))
  ·
   exact ws<|wm O<|wa O<|wn<|aC<|aZ<|aq<|aq<|aZ<|aq<|aD (.tmp O .nil) (⟨by rw [lW (d:=0) (by omega) hok hb3]; rfl,H1.fr⟩)
  exact aA<|aE<|ao<|aG<|wo (aU (b:=1) O O (by omega)<|wm O<|aY<|aX (k+1) ⟨⟨by omega,cL hok hb3⟩,H1⟩ ⟨rfl,rfl,rfl,rfl,trivial⟩ (by omega))
 exact bc<|an<|an<|aS<|ao<|ws<|wa O<|wn<|aC<|aD (.tmp O .nil) (⟨by rw [lg (d:=0) (fun j hj=>hok j (by omega))]; rfl,H1.fr⟩)
theorem EP (lv:Value) (l:List Xt) (w:World) (hA:Arr w lv 2 l.length (Kh xtc l)) (hn:l.length<2^47) :
  Calls Kf 135 #[lv,(.func (.func 136) #[] #[])] w (fun e w'=>e=.returned (.bool (l.any eV))∧Fr [] w w'):=by
 refine enter Tryz.func135 O O ?_
 have H0:=aL w []
 exact ws<|wa O<|wn<|ws<|wm O<|wm O<|wo (cq H0 (Kd 177) O (Eu _ l _ (H0.arr hA) (by omega)) fun w1 H1=>(wo (fe (b:=(0:Int)) O O<|wa O<|wn<|aC<|aD (.tmp O .nil) (⟨by rw [←jV]; rfl,H1.fr⟩))))
theorem tL (lv:Value) (l:List UInt16) (y:UInt16) (w:World) (hA:Arr w lv 1 l.length (Kg bA l)) (hn:l.length<2^47) :
  Calls Kf 141 #[lv,(bA y)] w (fun e w'=>e=.returned (.bool (l.any (gG y)))∧Fr [] w w'):=by
 refine enter Tryz.func141 O O ?_
 have H0:=aL w []
 exact ws<|wa O<|wn<|ws<|wm O<|wm O<|wo (cq H0 (Kd 178) O (BJ _ l y _ (H0.arr hA) (by omega)) fun w1 H1=>(wo (fe (b:=(0:Int)) O O<|wa O<|wn<|aC<|aD (.tmp O .nil) (⟨by rw [←jV]; rfl,H1.fr⟩))))
theorem ES (lv:Value) (l:List UInt8) (y:UInt8) (w:World) (hA:Arr w lv 1 l.length (Kg vU8 l)) (hn:l.length<2^47) :
  Calls Kf 142 #[lv,(vU8 y)] w (fun e w'=>e=.returned (.bool (l.any (rT y)))∧Fr [] w w'):=by
 refine enter Tryz.func142 O O ?_
 have H0:=aL w []
 exact ws<|wa O<|wn<|ws<|wm O<|wm O<|wo (cq H0 (Kd 179) O (Ex _ l y _ (H0.arr hA) (by omega)) fun w1 H1=>(wo (fe (b:=(0:Int)) O O<|wa O<|wn<|aC<|aD (.tmp O .nil) (⟨by rw [←jV]; rfl,H1.fr⟩))))
theorem Ds (lv:Value) (l:List Xt) (w:World) (hA:Arr w lv 2 l.length (Kh xtc l)) (hn:l.length<2^47) :
  Calls Kf 137 #[lv,(.func (.func 138) #[] #[])] w (fun e w'=>e=.returned (.bool (ris lh l))∧Fr [] w w'):=by
 refine enter Tryz.func137 O O ?_
 have H0:=aL w []
 refine ws<|wa O<|wn<|ap<|ws<|wm O<|wo (bu A37 O (H0.arr hA)<|wo (eq (a:=((l.length:Nat):Int)) (b:=((1:Nat):Int)) O O (by omega)<|wm O<|wn<|aB<|bi (α:=Nat) (fun k=>[(0,lv),(1,(.func (.func 138) #[] #[])),(8,(vI (((l.length:Nat):Int)-((1:Nat):Int)))),(9,(vN k))]) (fun k w'=>(k≤l.length∧(∀j,j<k→lh (l.getD j Xt.zero) (l.getD (j+1) Xt.zero)=true))∧Ke [] w w' []) (fun k=>l.length-k) 0 ⟨⟨Kk _,fun j h=>by omega⟩,H0⟩ ⟨rfl,rfl,rfl,rfl,trivial⟩ ?_))
 rintro k w1 ⟨⟨hk1,hok⟩,H1⟩
 show WC _ _ _ _ _ [(0,lv),(1,(.func (.func 138) #[] #[])),(8,(vI (((l.length:Nat):Int)-((1:Nat):Int)))),(9,(vN k))] _
 refine ws<|wo (eR O O<|wn<|ap (wE ((k:Int)<(((l.length:Nat):Int)-((1:Nat):Int))) (fun hb2 hc2=>?_) (fun hb2 hc2=>?_)))
 ·
  refine aA<|ao<|ap<|aB<|ws<|wm O<|wa O<|wn<|ap<|bn 12 Fa.M H1 (mh O<|mh O<|mh O<|oh (fun w1 H1=>bJ A37 Fa.cR O (H1.arr hA) O (by omega) zr)<|oh (fun w1 H1=>cH (vs:=xtc (l.getD k Xt.zero)) O (Arr.atsF (H1.arr hA) (fun _=>rfl) (by decide) Xt.zero (by omega)) A207 O Fa.cR O zr)<|mh O<|mh O<|oh (fun w1 H1=>aU (b:=1) O O (by omega) zr)<|oh (fun w1 H1=>bJ A37 Fa.cR O (H1.arr hA) O (by omega) zr)<|oh (fun w1 H1=>cH (vs:=xtc (l.getD (k+1) Xt.zero)) O (Arr.atsF (H1.arr hA) (fun _=>rfl) (by decide) Xt.zero (by omega)) A207 O Fa.cR O zr)<|oh (fun w1 H1=>gh (f:=138) O (Kd 138) O ((CP (l.getD k Xt.zero) (l.getD (k+1) Xt.zero) _).mono (fun e w2 hq=>⟨_,hq.1,rfl,hq.2⟩)))<|oh (fun w1 H1=>cQ O zr)  bD) (by kernel_rfl) ?_
  intro β4 w4 H4
  refine wn (wC (!(lh (l.getD k Xt.zero) (l.getD (k+1) Xt.zero))) (fun hb5=>?_) (fun hb5=>?_))
  ·
   have hn5:=(Bool.not_eq_true' _).mp hb5
   exact ws<|wa O<|wn<|aC<|aZ<|aq<|aq<|aZ<|aq<|aD (.tmp O .nil) (⟨by rw [nr (d:=Xt.zero) (k:=k) (by omega) (by simpa using hb5)]; rfl,H4.fr⟩)
  have hn5:=(Bool.not_eq_false' _).mp hb5
  exact aA<|aE<|ao<|aG<|wo (aU (b:=1) O O (by omega)<|wm O<|aY<|aX (k+1) ⟨⟨by omega,cL hok (by simpa using hb5)⟩,H4⟩ ⟨rfl,rfl,rfl,rfl,trivial⟩ (by omega))
 exact bc<|an<|an<|aS<|ao<|ws<|wa O<|wn<|aC<|aD (.tmp O .nil) (⟨by rw [la (d:=Xt.zero) (fun j hj=>hok j (by omega))]; rfl,H1.fr⟩)
theorem AR (lv:Value) (l:List UInt16) (w:World) (hA:Arr w lv 1 l.length (Kg bA l)) (hn:l.length<2^47) :
  Calls Kf 139 #[lv,(.func (.func 140) #[] #[])] w (fun e w'=>e=.returned (.bool (ris jy l))∧Fr [] w w'):=by
 refine enter Tryz.func139 O O ?_
 have H0:=aL w []
 refine ws<|wa O<|wn<|ap<|ws<|wm O<|wo (bu A38 O (H0.arr hA)<|wo (eq (a:=((l.length:Nat):Int)) (b:=((1:Nat):Int)) O O (by omega)<|wm O<|wn<|aB<|bi (α:=Nat) (fun k=>[(0,lv),(1,(.func (.func 140) #[] #[])),(8,(vI (((l.length:Nat):Int)-((1:Nat):Int)))),(9,(vN k))]) (fun k w'=>(k≤l.length∧(∀j,j<k→jy (l.getD j 0) (l.getD (j+1) 0)=true))∧Ke [] w w' []) (fun k=>l.length-k) 0 ⟨⟨Kk _,fun j h=>by omega⟩,H0⟩ ⟨rfl,rfl,rfl,rfl,trivial⟩ ?_))
 rintro k w1 ⟨⟨hk1,hok⟩,H1⟩
 show WC _ _ _ _ _ [(0,lv),(1,(.func (.func 140) #[] #[])),(8,(vI (((l.length:Nat):Int)-((1:Nat):Int)))),(9,(vN k))] _
 refine ws<|wo (eR O O<|wn<|ap (wE ((k:Int)<(((l.length:Nat):Int)-((1:Nat):Int))) (fun hb2 hc2=>?_) (fun hb2 hc2=>?_)))
 ·
  refine aA<|ao<|ap<|aB<|ws<|wm O<|wa O<|wn<|ap<|bn 12 Fa.M H1 (mh O<|mh O<|mh O<|oh (fun w1 H1=>aF A38 Fa.fV O (H1.arr hA) O (by omega) zr)<|oh (fun w1 H1=>aj O ((H1.arr hA).at (aR bA 0 (aV (H1.arr hA) (by omega)))) A203 O zr)<|mh O<|mh O<|oh (fun w1 H1=>aU (b:=1) O O (by omega) zr)<|oh (fun w1 H1=>aF A38 Fa.fV O (H1.arr hA) O (by omega) zr)<|oh (fun w1 H1=>aj O ((H1.arr hA).at (aR bA 0 (aV (H1.arr hA) (by omega)))) A203 O zr)<|oh (fun w1 H1=>gh (f:=140) O (Kd 140) O ((AB (l.getD k 0) (l.getD (k+1) 0) _).mono (fun e w2 hq=>⟨_,hq.1,rfl,hq.2⟩)))<|oh (fun w1 H1=>cQ O zr)  bD) (by kernel_rfl) ?_
  intro β4 w4 H4
  refine wn (wC (!(jy (l.getD k 0) (l.getD (k+1) 0))) (fun hb5=>?_) (fun hb5=>?_))
  ·
   have hn5:=(Bool.not_eq_true' _).mp hb5
   exact ws<|wa O<|wn<|aC<|aZ<|aq<|aq<|aZ<|aq<|aD (.tmp O .nil) (⟨by rw [nr (d:=0) (k:=k) (by omega) (by simpa using hb5)]; rfl,H4.fr⟩)
  have hn5:=(Bool.not_eq_false' _).mp hb5
  exact aA<|aE<|ao<|aG<|wo (aU (b:=1) O O (by omega)<|wm O<|aY<|aX (k+1) ⟨⟨by omega,cL hok (by simpa using hb5)⟩,H4⟩ ⟨rfl,rfl,rfl,rfl,trivial⟩ (by omega))
 exact bc<|an<|an<|aS<|ao<|ws<|wa O<|wn<|aC<|aD (.tmp O .nil) (⟨by rw [la (d:=0) (fun j hj=>hok j (by omega))]; rfl,H1.fr⟩)
theorem ii (pg:UInt32) (ev pv:Value) (xs:List Xt) (ps:List UInt16) (con:Bool) (w:World) (hE:Arr w ev 2 xs.length (Kh xtc xs)) (hP:Arr w pv 1 ps.length (Kg bA ps)) (hn:xs.length<2^47) (hm:ps.length<2^47) :
  Calls Kf 90 #[(.agg #[(aa pg),ev,pv,(.bool con)])] w (fun e w'=>e=.returned (vN (mfE pg xs ps))∧Fr [] w w'):=by
 refine enter Tryz.func90 O O ?_
 have H0:=aL w []
 refine ws<|wo (bK H0 O O (fun b1 w1 H1=>(wa O<|wn<|ws<|wo (ab O Fa.da<|wo (aj O (H1.cell (i:=0) O O) A37 O<|wo (cq H1 (Kd 135) O (EP _ xs _ (H1.arr hE) (by omega)) fun w2 H2=>(wa O<|wn<|ap<|ws<|wm O<|wm O (wV 8 (xs.any eV) (fun hb3=>?_) (fun hb3=>?_)))))))))
 ·
  exact wN hb3<|wN hb3<|wN hb3<|wN hb3<|wo (aQ O hb3 O<|wm O<|wN O<|wN O<|wN O<|wN O<|wo (aQ O O O<|wm O<|wN O<|wN O<|wN O<|wo (aQ O O O<|wm O<|wN O<|wN O<|wN O<|wN O<|wo (aQ O O O<|wm O<|wN O<|wN O<|wN O<|wo (aQ O O O<|wn<|bX O O<|ws<|wa O<|wn<|aC<|aq<|aD (.tmp O .nil) (⟨by (rw [mfE,dP,hb3])<;>rfl,H2.fr⟩))))))
 refine wY hb3 (ab O Fa.da<|wY hb3 (aj O (H2.cell (i:=0) O O) A37 O<|wY hb3 (cq H2 (Kd 137) O (Ds _ xs _ (H2.arr hE) (by omega)) fun w4 H4=>(wY hb3 (cQ O<|wo (aN O hb3 O<|wm O (wV 14 (!(ris lh xs)) (fun hb5=>?_) (fun hb5=>?_))))))))
 ·
  have hn5:=(Bool.not_eq_true' _).mp hb5
  exact wN hb5<|wN hb5<|wN hb5<|wN hb5<|wo (aQ O hb5 O<|wm O<|wN O<|wN O<|wN O<|wo (aQ O O O<|wm O<|wN O<|wN O<|wN O<|wN O<|wo (aQ O O O<|wm O<|wN O<|wN O<|wN O<|wo (aQ O O O<|wn<|bX O O<|ws<|wa O<|wn<|aC<|aq<|aD (.tmp O .nil) (⟨by (rw [mfE,dP,hb3,hn5])<;>rfl,H4.fr⟩)))))
 have hn5:=(Bool.not_eq_false' _).mp hb5
 refine wY hb5 (ab O Fa.di<|wY hb5 (aj O (H4.cell (i:=0) O O) A38 O<|wY hb5 (cq H4 (Kd 139) O (AR _ ps _ (H4.arr hP) (by omega)) fun w6 H6=>(wY hb5 (cQ O<|wo (aN O hb5 O<|wm O (wV 20 (!(ris jy ps)) (fun hb7=>?_) (fun hb7=>?_))))))))
 ·
  have hn7:=(Bool.not_eq_true' _).mp hb7
  exact wN hb7<|wN hb7<|wN hb7<|wo (aQ O hb7 O<|wm O<|wN O<|wN O<|wN O<|wN O<|wo (aQ O O O<|wm O<|wN O<|wN O<|wN O<|wo (aQ O O O<|wn<|bX O O<|ws<|wa O<|wn<|aC<|aq<|aD (.tmp O .nil) (⟨by (rw [mfE,dP,hb3,hn5,hn7])<;>rfl,H6.fr⟩))))
 have hn7:=(Bool.not_eq_false' _).mp hb7
 refine wY hb7 (ab O Fa.di<|wY hb7 (aj O (H6.cell (i:=0) O O) A38 O<|wY hb7 (cq H6 (Kd 141) O (tL _ ps 0 _ (H6.arr hP) (by omega)) fun w8 H8=>(wo (aN O hb7 O<|wm O (wV 25 (ps.any (gG 0)) (fun hb9=>?_) (fun hb9=>?_)))))))
 ·
  exact wN hb9<|wN hb9<|wN hb9<|wN hb9<|wo (aQ O hb9 O<|wm O<|wN O<|wN O<|wN O<|wo (aQ O O O<|wn<|bX O O<|ws<|wa O<|wn<|aC<|aq<|aD (.tmp O .nil) (⟨by (rw [mfE,dP,hb3,hn5,hn7,hb9])<;>rfl,H8.fr⟩)))
 refine wY hb9 (ab O Fa.di<|wY hb9 (aj O (H8.cell (i:=0) O O) A38 O<|wY hb9 (bu A38 O (H8.arr hP)<|wY hb9 (cm (b:=16) O O<|wo (aN O hb9 O<|wm O (wF 31 (ps.length>16) (fun hb10 hc10=>?_) (fun hb10 hc10=>?_)))))))
 ·
  exact wN hb10<|wN hb10<|wN hb10<|wo (aQ O hb10 O<|wn<|bX O O<|ws<|wa O<|wn<|aC<|aq<|aD (.tmp O .nil) (⟨by (rw [mfE,dP,hb3,hn5,hn7,hb9,hb10])<;>rfl,H8.fr⟩))
 refine wY hb10 (ab O Fa.im<|wY hb10 (aj O (H8.cell (i:=0) O O) A22 O<|wY hb10 (cI (b:=1024) O O<|wo (aN O hb10 O<|wn (wE (pg>(1024:UInt32)) (fun hb11 hc11=>?_) (fun hb11 hc11=>?_))))))
 ·
  exact ws<|wa O<|wn<|aC<|aq<|aD (.tmp O .nil) (⟨by (rw [mfE,dP,hb3,hn5,hn7,hb9,hb10,hb11])<;>rfl,H8.fr⟩)
 exact aA<|ao<|ws<|wa O<|wn<|aC<|aD (.tmp O .nil) (⟨by (rw [mfE,dP,hb3,hn5,hn7,hb9,hb10,hb11])<;>rfl,H8.fr⟩)
theorem DU (c:Nat) (pg:UInt32) (hv:Value) (he:List UInt32) (mb cn:Nat) (gs:List Gr) (mp:UInt32) (ev pv:Value) (xs:List Xt) (ps:List UInt16) (con:Bool) (w:World) (hC:cellsAt w c [(aa pg),hv,(.map (some mb))]) (hH:Arr w hv 1 he.length (Kg aa he)) (hM:w.heap[mb]?=some (mP .i64 (Kg Gr.me gs) cn)) (hG:BsOK 199 Gr.cells Gr.b gs w) (hS:grD.list.ok w gs) (_hME:MEok (Kg Gr.me gs) cn) (hE:Arr w ev 2 xs.length (Kh xtc xs)) (_hP:Arr w pv 1 ps.length (Kg bA ps)) (hn:xs.length<2^40) (_hm:ps.length<2^40) (_hhe:he.length<2^32) :
  Calls Kf 208 #[(ptr c 0),(.agg #[(aa mp),ev,pv,(.bool con)])] w (fun e w'=>e=.returned (vN (kJ he xs))∧Fr [] w w'):=by
 refine enter Tryz.func208 O O ?_
 have H0:=((((((aL w []).oldB hC).oldA hH).mpOld hM).bsOld hG).dpOld hS)
 refine ws<|wo (bK H0 O O (fun b1 w1 H1=>(wa O<|wn<|ap<|ws<|wo (ab O Fa.da<|wo (aj O (H1.cell (i:=5) O O) A37 O<|wo (bu A37 O (H1.arr hE)<|wm O<|wn<|aB<|bi (α:=Nat) (fun k=>[(0,(ptr c 0)),(8,ev),(9,(vN xs.length)),(10,(vN k))]) (fun k w'=>(k≤xs.length∧(∀j,j<k→¬(xs.getD j Xt.zero).id.toNat≥he.length))∧Ke [] w w' [Ent.bo c [(aa pg),hv,(.map (some mb))],Ent.ar hv 1 he.length (Kg aa he),Ent.mo .i64 mb (Kg Gr.me gs) cn,Ent.bsO 199 Gr.cells Gr.b gs,Ent.dp grD.list gs,.blk b1 [(aa mp),ev,pv,(.bool con)] 40]) (fun k=>xs.length-k) 0 ⟨⟨Kk _,fun j h=>by omega⟩,H1⟩ ⟨rfl,rfl,rfl,rfl,trivial⟩ ?_))))))
 rintro k w2 ⟨⟨hk1,hok⟩,H2⟩
 show WC _ _ _ _ _ [(0,(ptr c 0)),(8,ev),(9,(vN xs.length)),(10,(vN k))] _
 refine ws<|wo (bm O O<|wn<|ap (wE (k<xs.length) (fun hb3 hc3=>?_) (fun hb3 hc3=>?_)))
 ·
  refine aA<|ao<|ap<|aB<|ws<|wo (bJ A37 Fa.cR O (H2.arr hE) O (by omega)<|wo (cH (vs:=xtc (xs.getD k Xt.zero)) O (Arr.atsF (H2.arr hE) (fun _=>rfl) (by decide) Xt.zero (by omega)) A207 O Fa.cR O<|wo (bt H2 Fa.cR (fun b4 w4 H4=>(wo (bw (i:=6) H4 O O O O O Fa.cR (fun w5 H5=>(wn<|ap<|bn 10 Fa.M H5 (oh (fun w1 H1=>ab O Fa.ey zr)<|oh (fun w1 H1=>aj O (H1.cell (i:=6) O O) A22 O zr)<|oh (fun w1 H1=>dA (hs:=A22) (hd:=A3) O zr)<|mh O<|oh (fun w1 H1=>aJ O zr)<|oh (fun w1 H1=>ab O Fa.nT zr)<|oh (fun w1 H1=>ab O Fa.il zr)<|oh (fun w1 H1=>aj O (H1.cellO (i:=0) O O) A73 O zr)<|oh (fun w1 H1=>bu A73 O (H1.arrO (i:=1) O) zr)<|oh (fun w1 H1=>dI O O zr)  bD) (by kernel_rfl) ?_))))))))
  intro β6 w6 H6
  refine wn (wE ((xs.getD k Xt.zero).id.toNat≥he.length) (fun hb7 hc7=>?_) (fun hb7 hc7=>?_))
  ·
   exact ws<|wa O<|wn<|aC<|aZ<|aq<|aq<|aZ<|aq<|aD (.tmp O .nil) (⟨by rw [zH (k:=k) (by omega) (dT hb7)]; rfl,H6.fr⟩)
  exact aA<|aE<|ao<|aG<|wo (aU (b:=1) O O (by omega)<|wm O<|aY<|aX (k+1) ⟨⟨by omega,fun j h=>by rcases Nat.lt_or_ge j k with h9 | h9; exact hok j h9; rw [show j=k by omega]; exact dF hb7⟩,(H6.take 6)⟩ ⟨rfl,rfl,rfl,rfl,trivial⟩ (by omega))
 exact bc<|an<|an<|aS<|ao<|ws<|wa O<|wn<|aC<|aD (.tmp O .nil) (⟨by rw [Bu (fun j hj=>hok j (by omega))]; rfl,H2.fr⟩)
theorem Eh (c:Nat) (pg:UInt32) (hv:Value) (he:List UInt32) (mb cn:Nat) (gs:List Gr) (mp:UInt32) (ev pv:Value) (xs:List Xt) (ps:List UInt16) (con:Bool) (w:World) (hC:cellsAt w c [(aa pg),hv,(.map (some mb))]) (hH:Arr w hv 1 he.length (Kg aa he)) (hM:w.heap[mb]?=some (mP .i64 (Kg Gr.me gs) cn)) (hG:BsOK 199 Gr.cells Gr.b gs w) (hS:grD.list.ok w gs) (_hME:MEok (Kg Gr.me gs) cn) (hE:Arr w ev 2 xs.length (Kh xtc xs)) (_hP:Arr w pv 1 ps.length (Kg bA ps)) (hn:xs.length<2^40) (_hm:ps.length<2^40) (_hhe:he.length<2^32) :
  Calls Kf 209 #[(ptr c 0),(.agg #[(aa mp),ev,pv,(.bool con)])] w (fun e w'=>e=.returned (vN (kK he xs))∧Fr [] w w'):=by
 refine enter Tryz.func209 O O ?_
 have H0:=((((((aL w []).oldB hC).oldA hH).mpOld hM).bsOld hG).dpOld hS)
 refine ws<|wo (bK H0 O O (fun b1 w1 H1=>(wa O<|wn<|ap<|ws<|wo (ab O Fa.da<|wo (aj O (H1.cell (i:=5) O O) A37 O<|wo (bu A37 O (H1.arr hE)<|wm O<|wn<|aB<|bi (α:=Nat) (fun k=>[(0,(ptr c 0)),(8,ev),(9,(vN xs.length)),(10,(vN k))]) (fun k w'=>(k≤xs.length∧(∀j,j<k→jN he (xs.getD j Xt.zero)=false))∧Ke [] w w' [Ent.bo c [(aa pg),hv,(.map (some mb))],Ent.ar hv 1 he.length (Kg aa he),Ent.mo .i64 mb (Kg Gr.me gs) cn,Ent.bsO 199 Gr.cells Gr.b gs,Ent.dp grD.list gs,.blk b1 [(aa mp),ev,pv,(.bool con)] 40]) (fun k=>xs.length-k) 0 ⟨⟨Kk _,fun j h=>by omega⟩,H1⟩ ⟨rfl,rfl,rfl,rfl,trivial⟩ ?_))))))
 rintro k w2 ⟨⟨hk1,hok⟩,H2⟩
 show WC _ _ _ _ _ [(0,(ptr c 0)),(8,ev),(9,(vN xs.length)),(10,(vN k))] _
 refine ws<|wo (bm O O<|wn<|ap (wE (k<xs.length) (fun hb3 hc3=>?_) (fun hb3 hc3=>?_)))
 ·
  refine aA<|ao<|ap<|aB<|ws<|wo (bJ A37 Fa.cR O (H2.arr hE) O (by omega)<|wo (cH (vs:=xtc (xs.getD k Xt.zero)) O (Arr.atsF (H2.arr hE) (fun _=>rfl) (by decide) Xt.zero (by omega)) A207 O Fa.cR O<|wo (bt H2 Fa.cR (fun b4 w4 H4=>(wo (bw (i:=6) H4 O O O O O Fa.cR (fun w5 H5=>(wn<|ap (wG ((xs.getD k Xt.zero).id.toNat<he.length) (fun hb6 hc6=>?_) (fun hb6 hc6=>?_))))))))))
  ·
   refine bn 24 Fa.M H5 (oh (fun w1 H1=>ab O Fa.ey zr)<|oh (fun w1 H1=>aj O (H1.cell (i:=6) O O) A22 O zr)<|oh (fun w1 H1=>dA (hs:=A22) (hd:=A3) O zr)<|mh O<|oh (fun w1 H1=>aJ O zr)<|oh (fun w1 H1=>ab O Fa.nT zr)<|oh (fun w1 H1=>ab O Fa.il zr)<|oh (fun w1 H1=>aj O (H1.cellO (i:=0) O O) A73 O zr)<|oh (fun w1 H1=>bu A73 O (H1.arrO (i:=1) O) zr)<|oh (fun w1 H1=>bm O O zr)<|mh O<|yh hb6 (fun w1 H1=>ab O Fa.fW zr)<|yh hb6 (fun w1 H1=>aj O (H1.cell (i:=6) O O) A22 O zr)<|yh hb6 (fun w1 H1=>au O zr)<|yh hb6 (fun w1 H1=>aJ O zr)<|yh hb6 (fun w1 H1=>ab O Fa.nT zr)<|yh hb6 (fun w1 H1=>ab O Fa.il zr)<|yh hb6 (fun w1 H1=>aj O (H1.cellO (i:=0) O O) A73 O zr)<|yh hb6 (fun w1 H1=>ab O Fa.ey zr)<|yh hb6 (fun w1 H1=>aj O (H1.cell (i:=6) O O) A22 O zr)<|yh hb6 (fun w1 H1=>aF A73 Fa.I22 O (H1.arrO (i:=1) O) O (by omega) zr)<|yh hb6 (fun w1 H1=>aj O ((H1.arrO (i:=1) O).at (aR aa 0 (aV (H1.arrO (i:=1) O) (by omega)))) A22 O zr)<|yh hb6 (fun w1 H1=>cI O O zr)<|oh (fun w1 H1=>aQ O hb6 O zr)  bD) (by kernel_rfl) ?_
   intro β7 w7 H7
   refine wn (wE ((xs.getD k Xt.zero).bl>(he.getD (xs.getD k Xt.zero).id.toNat 0)) (fun hb8 hc8=>?_) (fun hb8 hc8=>?_))
   ·
    exact ws<|wa O<|wn<|aC<|aZ<|aq<|aq<|aZ<|aq<|aD (.tmp O .nil) (⟨by rw [zO (k:=k) (by omega) (by rw [jN,hb6,hb8]; rfl)]; rfl,H7.fr⟩)
   exact aA<|aE<|ao<|aG<|wo (aU (b:=1) O O (by omega)<|wm O<|aY<|aX (k+1) ⟨⟨by omega,fun j h=>by rcases Nat.lt_or_ge j k with h9 | h9; exact hok j h9; rw [show j=k by omega]; exact (by rw [jN,hb6,hb8]; rfl)⟩,(H7.take 6)⟩ ⟨rfl,rfl,rfl,rfl,trivial⟩ (by omega))
  refine bn 24 Fa.M H5 (oh (fun w1 H1=>ab O Fa.ey zr)<|oh (fun w1 H1=>aj O (H1.cell (i:=6) O O) A22 O zr)<|oh (fun w1 H1=>dA (hs:=A22) (hd:=A3) O zr)<|mh O<|oh (fun w1 H1=>aJ O zr)<|oh (fun w1 H1=>ab O Fa.nT zr)<|oh (fun w1 H1=>ab O Fa.il zr)<|oh (fun w1 H1=>aj O (H1.cellO (i:=0) O O) A73 O zr)<|oh (fun w1 H1=>bu A73 O (H1.arrO (i:=1) O) zr)<|oh (fun w1 H1=>bm O O zr)<|mh O<|nh hb6<|nh hb6<|nh hb6<|nh hb6<|nh hb6<|nh hb6<|nh hb6<|nh hb6<|nh hb6<|nh hb6<|nh hb6<|nh hb6<|oh (fun w1 H1=>aN O hb6 O zr)  bD) (by kernel_rfl) ?_
  intro β9 w9 H9
  exact wn<|bF O O<|aA<|aE<|ao<|aG<|wo (aU (b:=1) O O (by omega)<|wm O<|aY<|aX (k+1) ⟨⟨by omega,fun j h=>by rcases Nat.lt_or_ge j k with h9 | h9; exact hok j h9; rw [show j=k by omega]; exact (by rw [jN,hb6]; rfl)⟩,(H9.take 6)⟩ ⟨rfl,rfl,rfl,rfl,trivial⟩ (by omega))
 exact bc<|an<|an<|aS<|ao<|ws<|wa O<|wn<|aC<|aD (.tmp O .nil) (⟨by rw [BC (fun j hj=>hok j (by omega))]; rfl,H2.fr⟩)
theorem rF (mp:UInt32) (ev pv:Value) (xs:List Xt) (ps:List UInt16) (con:Bool) (id:UInt32) (w:World) (hE:Arr w ev 2 xs.length (Kh xtc xs)) (_hP:Arr w pv 1 ps.length (Kg bA ps)) (hn:xs.length<2^40) (_hm:ps.length<2^40) :
  Calls Kf 235 #[(.agg #[(aa mp),ev,pv,(.bool con)]),(aa id)] w (fun e w'=>e=.returned (.tuple #[.agg #[aa (ig xs id).id,aa (ig xs id).bl],.bool (kv xs id)])∧Fr [] w w'):=by
 refine enter Tryz.func235 O O ?_
 have H0:=aL w []
 refine ws<|wo (bK H0 O O (fun b1 w1 H1=>(wo (bt H1 Fa.cR (fun b2 w2 H2=>(wa O<|wn<|ap<|ws<|wo (ab O Fa.da<|wo (aj O (H2.cell (i:=0) O O) A37 O<|wo (bu A37 O (H2.arr hE)<|wm O<|wn<|aB<|bi (α:=Nat) (fun k=>[(0,(.agg #[(aa mp),ev,pv,(.bool con)])),(1,(aa id)),(4,(ptr b2 0)),(9,ev),(10,(vN xs.length)),(11,(vN k))]) (fun k w'=>(k≤xs.length∧(∀j,j<k→pu id (xs.getD j Xt.zero)=false))∧Ke [] w w' [.blk b1 [(aa mp),ev,pv,(.bool con)] 40,.blk b2 [(aa 0),(aa 0)] 207]) (fun k=>xs.length-k) 0 ⟨⟨Kk _,fun j h=>by omega⟩,H2⟩ ⟨rfl,rfl,rfl,rfl,rfl,rfl,trivial⟩ ?_)))))))))
 rintro k w3 ⟨⟨hk1,hok⟩,H3⟩
 show WC _ _ _ _ _ [(0,(.agg #[(aa mp),ev,pv,(.bool con)])),(1,(aa id)),(4,(ptr b2 0)),(9,ev),(10,(vN xs.length)),(11,(vN k))] _
 refine ws<|wo (bm O O<|wn<|ap (wE (k<xs.length) (fun hb4 hc4=>?_) (fun hb4 hc4=>?_)))
 ·
  refine aA<|ao<|ap<|aB<|ws<|wo (bJ A37 Fa.cR O (H3.arr hE) O (by omega)<|wo (cH (vs:=xtc (xs.getD k Xt.zero)) O (Arr.atsF (H3.arr hE) (fun _=>rfl) (by decide) Xt.zero (by omega)) A207 O Fa.cR O<|wo (bt H3 Fa.cR (fun b5 w5 H5=>(wo (bw (i:=2) H5 O O O O O Fa.cR (fun w6 H6=>(wn<|ws<|wo (ab O Fa.ey<|wo (aj O (H6.cell (i:=2) O O) A22 O<|wm O<|wo (eu O O<|wn (wE ((xs.getD k Xt.zero).id=id) (fun hb7 hc7=>?_) (fun hb7 hc7=>?_)))))))))))))
  ·
   exact ws<|wo (aM (vs:=[_,_]) O (H6.cells (i:=2) O O) A207 O Fa.cR O<|wo (bw (i:=1) H6 O O O O O Fa.cR (fun w8 H8=>(wa O<|wn<|aC<|aZ<|aq<|aq<|aZ<|aq<|aD (.cell O (bM (vs:=[_,_]) (H8.cells (i:=1) O O) A207 O Fa.cR O) (.tmp O .nil)) (⟨by rw [(tG (k:=k) (by omega) hok hb7).1,(tG (k:=k) (by omega) hok hb7).2]; rfl,H8.fr⟩)))))
  exact aA<|aE<|ao<|aG<|wo (aU (b:=1) O O (by omega)<|wm O<|aY<|aX (k+1) ⟨⟨by omega,cL hok hb7⟩,(H6.take 2)⟩ ⟨rfl,rfl,rfl,rfl,rfl,rfl,trivial⟩ (by omega))
 exact bc<|an<|an<|aS<|ao<|ws<|wo (bP (cs:=[_,_]) Fa.cR Fa.ph O O<|wo (bw (i:=1) H3 O O O O O Fa.cR (fun w9 H9=>(wa O<|wn<|aC<|aD (.cell O (bM (vs:=[_,_]) (H9.cells (i:=1) O O) A207 O Fa.cR O) (.tmp O .nil)) (⟨by rw [(vG (fun j hj=>hok j (by omega))).1,(vG (fun j hj=>hok j (by omega))).2]; rfl,H9.fr⟩)))))
theorem Cg (y:UInt16) (cb:Nat) (g:Gr) (w:World) (hCb:cellsAt w cb [(ptr g.b 0)]) (hGb:cellsAt w g.b [(aa g.pg),g.ev,g.pv,(.bool g.con),(aa g.pp),(aa g.tk)]) (hGe:Arr w g.ev 2 g.xs.length (Kh xtc g.xs)) (hGp:Arr w g.pv 1 g.ps.length (Kg bA g.ps)) (hgp:g.ps.length<2^40) :
  Calls Kf 234 #[(bA y),(ptr cb 0)] w (fun e w'=>e=.returned (.bool (mR g y))∧Fr [] w w'):=by
 refine enter Tryz.func234 O O ?_
 have H0:=(((((aL w []).oldB hCb).oldB hGb).oldA hGe).oldA hGp)
 exact ws<|wa O<|wn<|ws<|wo (aj O (H0.cellO (i:=0) O O) A197 O<|wo (aJ O<|wo (ab O Fa.jv<|wo (ab O Fa.di<|wo (aj O (H0.cellO (i:=1) O O) A38 O<|wm O<|wo (cq H0 (Kd 141) O (tL _ g.ps y _ (H0.arrO (i:=3) O) (by omega)) fun w1 H1=>(wa O<|wn<|aC<|aD (.tmp O .nil) (⟨rfl,H1.fr⟩))))))))
theorem Ew (cb:Nat) (g:Gr) (lv:Value) (l:List UInt16) (w:World) (hA:Arr w lv 1 l.length (Kg bA l)) (hCb:cellsAt w cb [(ptr g.b 0)]) (hGb:cellsAt w g.b [(aa g.pg),g.ev,g.pv,(.bool g.con),(aa g.pp),(aa g.tk)]) (hGe:Arr w g.ev 2 g.xs.length (Kh xtc g.xs)) (hGp:Arr w g.pv 1 g.ps.length (Kg bA g.ps)) (hgp:g.ps.length<2^40) (hn:l.length<2^40) :
  Calls Kf 248 #[lv,(.func (.func 234) #[] #[(ptr cb 0)])] w (fun e w'=>e=.returned (vI (gD (mR g) l))∧Fr [] w w'):=by
 refine enter Tryz.func248 O O ?_
 have H0:=(((((aL w []).oldB hCb).oldB hGb).oldA hGe).oldA hGp)
 refine ws<|wa O<|wn<|ap<|ws<|wm O<|wo (bu A38 O (H0.arr hA)<|wm O<|wn<|aB<|bi (α:=Nat) (fun k=>[(0,lv),(1,(.func (.func 234) #[] #[(ptr cb 0)])),(7,(vN l.length)),(8,(vN k))]) (fun k w'=>(k≤l.length∧(∀j,j<k→mR g (l.getD j 0)=false))∧Ke [] w w' [Ent.bo cb [(ptr g.b 0)],Ent.bo g.b [(aa g.pg),g.ev,g.pv,(.bool g.con),(aa g.pp),(aa g.tk)],Ent.ar g.ev 2 g.xs.length (Kh xtc g.xs),Ent.ar g.pv 1 g.ps.length (Kg bA g.ps)]) (fun k=>l.length-k) 0 ⟨⟨Kk _,fun j h=>by omega⟩,H0⟩ ⟨rfl,rfl,rfl,rfl,trivial⟩ ?_)
 rintro k w1 ⟨⟨hk1,hok⟩,H1⟩
 show WC _ _ _ _ _ [(0,lv),(1,(.func (.func 234) #[] #[(ptr cb 0)])),(7,(vN l.length)),(8,(vN k))] _
 refine ws<|wo (bm O O<|wn<|ap (wE (k<l.length) (fun hb2 hc2=>?_) (fun hb2 hc2=>?_)))
 ·
  refine aA<|ao<|ap<|aB<|ws<|wm O<|wa O<|wn<|ws<|wm O<|wm O<|wm O<|wo (aF A38 Fa.fV O (H1.arr hA) O (by omega)<|wo (aj O ((H1.arr hA).at (aR bA 0 (aV (H1.arr hA) (by omega)))) A203 O<|wo (gh (f:=234) O (Kd 234) O ((Cg (l.getD k 0) cb g _ (H1.cellsAtO (i:=0) O) (H1.cellsAtO (i:=1) O) (H1.arrO (i:=2) O) (H1.arrO (i:=3) O) hgp).mono (fun e w3 hq=>?_)))))
  obtain ⟨rfl,hf3⟩:=hq
  refine ⟨_,rfl,?_⟩
  have H3:=H1.fr' hf3
  refine wn (wC (mR g (l.getD k 0)) (fun hb4=>?_) (fun hb4=>?_))
  ·
   exact ws<|wm O<|wa O<|wn<|aC<|aZ<|aq<|aq<|aZ<|aq<|aD (.tmp O .nil) (⟨by rw [lW (d:=0) (by omega) hok hb4]; rfl,H3.fr⟩)
  exact aA<|aE<|ao<|aG<|wo (aU (b:=1) O O (by omega)<|wm O<|aY<|aX (k+1) ⟨⟨by omega,cL hok hb4⟩,H3⟩ ⟨rfl,rfl,rfl,rfl,trivial⟩ (by omega))
 exact bc<|an<|an<|aS<|ao<|ws<|wa O<|wn<|aC<|aD (.tmp O .nil) (⟨by rw [lg (d:=0) (fun j hj=>hok j (by omega))]; rfl,H1.fr⟩)
theorem ER (cb:Nat) (g:Gr) (lv:Value) (l:List UInt16) (w:World) (hA:Arr w lv 1 l.length (Kg bA l)) (hCb:cellsAt w cb [(ptr g.b 0)]) (hGb:cellsAt w g.b [(aa g.pg),g.ev,g.pv,(.bool g.con),(aa g.pp),(aa g.tk)]) (hGe:Arr w g.ev 2 g.xs.length (Kh xtc g.xs)) (hGp:Arr w g.pv 1 g.ps.length (Kg bA g.ps)) (hgp:g.ps.length<2^40) (hn:l.length<2^40) :
  Calls Kf 233 #[lv,(.func (.func 234) #[] #[(ptr cb 0)])] w (fun e w'=>e=.returned (.bool (l.any (mR g)))∧Fr [] w w'):=by
 refine enter Tryz.func233 O O ?_
 have H0:=(((((aL w []).oldB hCb).oldB hGb).oldA hGe).oldA hGp)
 exact ws<|wa O<|wn<|ws<|wm O<|wm O<|wo (cq H0 (Kd 248) O (Ew cb g _ l _ (H0.arr hA) (H0.cellsAtO (i:=0) O) (H0.cellsAtO (i:=1) O) (H0.arrO (i:=2) O) (H0.arrO (i:=3) O) hgp hn) fun w1 H1=>(wo (fe (b:=(0:Int)) O O<|wa O<|wn<|aC<|aD (.tmp O .nil) (⟨by rw [←jV]; rfl,H1.fr⟩))))
end Go.Proofs.YtbjhccnffacbcaaGreat
