/- General lemmas and walks: FWInsn, FWRef4, FWSha, FWSha2, FWRef2, FWMac, FWBuild, FWSlot, FWSlot2, FWSlot3, FWSlot4, FWSlot5, FWSlot6, FWSlot7, FWSlot8, FWSlot9, FWSlot10, FWCap, FWDem, FWCap2, FWCap3, FWCap4, FWCap5, FWCap6, FWCap7, FWCap8, FWCap9, FWCap10, FWCap11, FWCap12, FWCap13, FWCap14, FWCap15, FWPack, FWPack2, FWImg, FWImg2, FWImg3, FWImg4, FWImg5, FWImg6, FWImg7, FWImg8, FWImg9, FWImg10, FWImg11, FWImg12, FWImg14, FWImg15, FWSeal, FWSeal2, FWSeal3, FWSpc, FWSpc2, FWSpc3, FWSpc4, FWSpc5, FUSort, FUSort2, FUSort3, FUSort4, FWSeq, FWSeq2, FWSeq3, FWSpc6, FWExo, FWExo2, FWExo3, FWExo4, FWExo5, FWExo6, FWLoad, FWLoad2, FWLoad3, FWLoad4, FWLoad5, FWLoad6, FWLoad7, FWLda, FWLda2, FWLda3, FWLda4, FWLda5, WInsn, WRef4, WSha, WSha2, WRef2, WMac, WBuild, WSlot, WRep, WSlot2, WSlot3, WSlot4, WSlot5, WSlot6, WSlot7, WSlot8, WSlot9, WCap, WDem, WCap2, WCap3, WCap4. No condition but what each theorem names. -/
import Derived.Test.YtbjhccnffacbcaaGreatQ0bae0ea3
import Derived.Test.YtbjhccnffacbcaaGreatQ4fdd8ed7
import Derived.Test.YtbjhccnffacbcaaGreatQcb9860f8
import Derived.Test.YtbjhccnffacbcaaGreatChecked
import Derived.Test.YtbjhccnffacbcaaGreatQ0a1db9bb
import Derived.Test.YtbjhccnffacbcaaGreatQ63aa4726
import Derived.Shelf.Strings.Repeat
import Derived.Ground.Names2Prog
import Derived.Test.YtbjhccnffacbcaaGreatProg
set_option maxRecDepth 100000
set_option maxHeartbeats 8000000
namespace Go.Proofs.YtbjhccnffacbcaaGreat
open Go.Owl
namespace Fa
theorem C187:callB Tryz.prog 187=true:=by kernel_rfl
theorem I5:tiB Tryz.prog 5=some ([(vU8 0)],1,1):=by kernel_rfl
theorem C226:callB Tryz.prog 226=true:=by kernel_rfl
theorem C228:callB Tryz.prog 228=true:=by kernel_rfl
theorem C243:callB Tryz.prog 243=true:=by kernel_rfl
theorem C244:callB Tryz.prog 244=true:=by kernel_rfl
theorem C245:callB Tryz.prog 245=true:=by kernel_rfl
theorem F325_0:faB Tryz.prog 325 0=some (0,8,false):=by kernel_rfl
theorem F325_1:faB Tryz.prog 325 1=some (8,1,true):=by kernel_rfl
theorem F325_2:faB Tryz.prog 325 2=some (9,1,true):=by kernel_rfl
theorem I114:tiB Tryz.prog 114=some ([(.slice none 0 0)],1,24):=by kernel_rfl
theorem I22:tiB Tryz.prog 22=some ([(vU32 0)],1,4):=by kernel_rfl
theorem I3:tiB Tryz.prog 3=some ([(vN 0)],1,8):=by kernel_rfl
theorem I322:tiB Tryz.prog 322=some ([(vU32 0),(vU32 0),(vU32 0),(vU32 0),(vU32 0),(vU32 0),(vU32 0),(vU32 0)],8,32):=by kernel_rfl
theorem I325:tiB Tryz.prog 325=some ([(vU32 0),(vU32 0),(vU32 0),(vU32 0),(vU32 0),(vU32 0),(vU32 0),(vU32 0),(.slice none 0 0),(vN 0)],10,64):=by kernel_rfl
theorem I344:tiB Tryz.prog 344=some ((List.replicate 64 (vU32 0)),64,256):=by kernel_rfl
theorem I9:tiB Tryz.prog 9=some ([(str [])],1,16):=by kernel_rfl
theorem M:Tryz.prog.follows .mixedOrders=true:=by kernel_rfl
theorem PL325:plB Tryz.prog 325=some [(0,8),(8,1),(9,1)]:=by kernel_rfl
theorem PT290:Tryz.prog.underlying 290=some (.pointer (Tryz.prog.pointee 290)):=by kernel_rfl
theorem C191:callB Tryz.prog 191=true:=by kernel_rfl
theorem C193:callB Tryz.prog 193=true:=by kernel_rfl
theorem C195:callB Tryz.prog 195=true:=by kernel_rfl
theorem C112:callB Tryz.prog 112=true:=by kernel_rfl
theorem C153:callB Tryz.prog 153=true:=by kernel_rfl
theorem C154:callB Tryz.prog 154=true:=by kernel_rfl
theorem C155:callB Tryz.prog 155=true:=by kernel_rfl
theorem C192:callB Tryz.prog 192=true:=by kernel_rfl
theorem C194:callB Tryz.prog 194=true:=by kernel_rfl
theorem C227:callB Tryz.prog 227=true:=by kernel_rfl
theorem F293_0:faB Tryz.prog 293 0=some (0,1,true):=by kernel_rfl
theorem F293_1:faB Tryz.prog 293 1=some (1,1,true):=by kernel_rfl
theorem I293:tiB Tryz.prog 293=some ([(.pointer none),(str [])],2,24):=by kernel_rfl
theorem PL293:plB Tryz.prog 293=some [(0,1),(1,1)]:=by kernel_rfl
theorem PT245:Tryz.prog.underlying 245=some (.pointer (Tryz.prog.pointee 245)):=by kernel_rfl
theorem C150:callB Tryz.prog 150=true:=by kernel_rfl
theorem CO175:Tryz.prog.cellsOf 175=2:=by kernel_rfl
theorem CO5:Tryz.prog.cellsOf 5=1:=by kernel_rfl
theorem F175_0:faB Tryz.prog 175 0=some (0,1,true):=by kernel_rfl
theorem F175_1:faB Tryz.prog 175 1=some (1,1,true):=by kernel_rfl
theorem I173:tiB Tryz.prog 173=some ([(.pointer none)],1,8):=by kernel_rfl
theorem PT173:Tryz.prog.underlying 173=some (.pointer (Tryz.prog.pointee 173)):=by kernel_rfl
theorem C58:callB Tryz.prog 58=true:=by kernel_rfl
theorem F146_0:faB Tryz.prog 146 0=some (0,1,true):=by kernel_rfl
theorem F193_3:faB Tryz.prog 193 3=some (4,1,true):=by kernel_rfl
theorem I59:tiB Tryz.prog 59=some ([(.slice none 0 0)],1,24):=by kernel_rfl
theorem PT111:Tryz.prog.underlying 111=some (.pointer (Tryz.prog.pointee 111)):=by kernel_rfl
theorem PT47:Tryz.prog.underlying 47=some (.pointer (Tryz.prog.pointee 47)):=by kernel_rfl
theorem C106:callB Tryz.prog 106=true:=by kernel_rfl
theorem C107:callB Tryz.prog 107=true:=by kernel_rfl
theorem C109:callB Tryz.prog 109=true:=by kernel_rfl
theorem C151:callB Tryz.prog 151=true:=by kernel_rfl
theorem C127:callB Tryz.prog 127=true:=by kernel_rfl
theorem C168:callB Tryz.prog 168=true:=by kernel_rfl
theorem C169:callB Tryz.prog 169=true:=by kernel_rfl
theorem F75_0:faB Tryz.prog 75 0=some (0,1,true):=by kernel_rfl
theorem F75_1:faB Tryz.prog 75 1=some (1,1,true):=by kernel_rfl
theorem I196:tiB Tryz.prog 196=some ([(vU32 0),(.slice none 0 0),(.map none)],3,40):=by kernel_rfl
theorem I264:tiB Tryz.prog 264=some ([(.map none),(.slice none 0 0),(vN 0)],3,40):=by kernel_rfl
theorem I73:tiB Tryz.prog 73=some ([(.slice none 0 0)],1,24):=by kernel_rfl
theorem I75:tiB Tryz.prog 75=some ([(vU32 0),(.slice none 0 0)],2,32):=by kernel_rfl
theorem PL196:plB Tryz.prog 196=some [(0,2),(2,1)]:=by kernel_rfl
theorem PL264:plB Tryz.prog 264=some [(0,1),(1,1),(2,1)]:=by kernel_rfl
theorem C126:callB Tryz.prog 126=true:=by kernel_rfl
theorem C128:callB Tryz.prog 128=true:=by kernel_rfl
theorem C129:callB Tryz.prog 129=true:=by kernel_rfl
theorem C83:callB Tryz.prog 83=true:=by kernel_rfl
theorem I146:tiB Tryz.prog 146=some ([(.pointer none),(.bool false),(vN 0),(.pointer none),(.bool false),(vN 0),(.pointer none),(.bool false),(vN 0),(.pointer none),(.bool false),(vN 0),(.pointer none),(.bool false),(vN 0),(.pointer none),(.bool false),(vN 0),(.pointer none),(.bool false),(vN 0),(.pointer none),(.bool false),(vN 0),(.pointer none),(.bool false),(vN 0),(.pointer none),(.slice none 0 0)],29,248):=by kernel_rfl
theorem I191:tiB Tryz.prog 191=some ([(.slice none 0 0)],1,24):=by kernel_rfl
theorem I193:tiB Tryz.prog 193=some ([(vU32 0),(.slice none 0 0),(.pointer none),(.pointer none),(.slice none 0 0),(vU32 0)],6,80):=by kernel_rfl
theorem PL146:plB Tryz.prog 146=some [(0,1),(1,27),(28,1)]:=by kernel_rfl
theorem PL193:plB Tryz.prog 193=some [(0,2),(2,1),(3,1),(4,1),(5,1)]:=by kernel_rfl
theorem C37:callB Tryz.prog 37=true:=by kernel_rfl
theorem PL75:plB Tryz.prog 75=some [(0,1),(1,1)]:=by kernel_rfl
theorem F196_0:faB Tryz.prog 196 0=some (0,2,false):=by kernel_rfl
theorem F196_1:faB Tryz.prog 196 1=some (2,1,true):=by kernel_rfl
theorem F199_0:faB Tryz.prog 199 0=some (0,4,false):=by kernel_rfl
theorem F199_1:faB Tryz.prog 199 1=some (4,1,true):=by kernel_rfl
theorem F40_0:faB Tryz.prog 40 0=some (0,1,true):=by kernel_rfl
theorem I199:tiB Tryz.prog 199=some ([(vU32 0),(.slice none 0 0),(.slice none 0 0),(.bool false),(vU32 0),(vU32 0)],6,72):=by kernel_rfl
theorem PL199:plB Tryz.prog 199=some [(0,4),(4,1),(5,1)]:=by kernel_rfl
theorem PT110:Tryz.prog.underlying 110=some (.pointer (Tryz.prog.pointee 110)):=by kernel_rfl
theorem PT197:Tryz.prog.underlying 197=some (.pointer (Tryz.prog.pointee 197)):=by kernel_rfl
theorem Z197:zvB Tryz.prog 197=some (.pointer none):=by kernel_rfl
theorem C135:callB Tryz.prog 135=true:=by kernel_rfl
theorem C136:callB Tryz.prog 136=true:=by kernel_rfl
theorem C137:callB Tryz.prog 137=true:=by kernel_rfl
theorem C138:callB Tryz.prog 138=true:=by kernel_rfl
theorem C139:callB Tryz.prog 139=true:=by kernel_rfl
theorem C140:callB Tryz.prog 140=true:=by kernel_rfl
theorem C141:callB Tryz.prog 141=true:=by kernel_rfl
theorem C177:callB Tryz.prog 177=true:=by kernel_rfl
theorem C178:callB Tryz.prog 178=true:=by kernel_rfl
theorem C179:callB Tryz.prog 179=true:=by kernel_rfl
theorem F207_0:faB Tryz.prog 207 0=some (0,1,true):=by kernel_rfl
theorem F207_1:faB Tryz.prog 207 1=some (1,1,true):=by kernel_rfl
theorem F40_1:faB Tryz.prog 40 1=some (1,1,true):=by kernel_rfl
theorem F40_2:faB Tryz.prog 40 2=some (2,1,true):=by kernel_rfl
theorem I203:tiB Tryz.prog 203=some ([(vU16 0)],1,2):=by kernel_rfl
theorem I207:tiB Tryz.prog 207=some ([(vU32 0),(vU32 0)],2,8):=by kernel_rfl
theorem C234:callB Tryz.prog 234=true:=by kernel_rfl
theorem C248:callB Tryz.prog 248=true:=by kernel_rfl
theorem PL207:plB Tryz.prog 207=some [(0,1),(1,1)]:=by kernel_rfl
theorem C233:callB Tryz.prog 233=true:=by kernel_rfl
theorem C235:callB Tryz.prog 235=true:=by kernel_rfl
theorem I197:tiB Tryz.prog 197=some ([(.pointer none)],1,8):=by kernel_rfl
theorem I40:tiB Tryz.prog 40=some ([(vU32 0),(.slice none 0 0),(.slice none 0 0),(.bool false)],4,64):=by kernel_rfl
theorem C173:callB Tryz.prog 173=true:=by kernel_rfl
theorem C208:callB Tryz.prog 208=true:=by kernel_rfl
theorem C209:callB Tryz.prog 209=true:=by kernel_rfl
theorem C210:callB Tryz.prog 210=true:=by kernel_rfl
theorem C60:callB Tryz.prog 60=true:=by kernel_rfl
theorem I308:tiB Tryz.prog 308=some ([.nilFunc],1,8):=by kernel_rfl
theorem C207:callB Tryz.prog 207=true:=by kernel_rfl
theorem C171:callB Tryz.prog 171=true:=by kernel_rfl
theorem C172:callB Tryz.prog 172=true:=by kernel_rfl
theorem C174:callB Tryz.prog 174=true:=by kernel_rfl
theorem C90:callB Tryz.prog 90=true:=by kernel_rfl
theorem I37:tiB Tryz.prog 37=some ([(.slice none 0 0)],1,24):=by kernel_rfl
theorem I38:tiB Tryz.prog 38=some ([(.slice none 0 0)],1,24):=by kernel_rfl
theorem C170:callB Tryz.prog 170=true:=by kernel_rfl
theorem C197:callB Tryz.prog 197=true:=by kernel_rfl
theorem C198:callB Tryz.prog 198=true:=by kernel_rfl
theorem C199:callB Tryz.prog 199=true:=by kernel_rfl
theorem C201:callB Tryz.prog 201=true:=by kernel_rfl
theorem F296_0:faB Tryz.prog 296 0=some (0,1,true):=by kernel_rfl
theorem F296_1:faB Tryz.prog 296 1=some (1,1,true):=by kernel_rfl
theorem F296_2:faB Tryz.prog 296 2=some (2,1,true):=by kernel_rfl
theorem F298_0:faB Tryz.prog 298 0=some (0,3,false):=by kernel_rfl
theorem I25:tiB Tryz.prog 25=some ([(vN 0)],1,8):=by kernel_rfl
theorem I296:tiB Tryz.prog 296=some ([(str []),(vN 0),(vN 0)],3,32):=by kernel_rfl
theorem I298:tiB Tryz.prog 298=some ([(str []),(vN 0),(vN 0)],3,32):=by kernel_rfl
theorem PL296:plB Tryz.prog 296=some [(0,1),(1,1),(2,1)]:=by kernel_rfl
theorem PL298:plB Tryz.prog 298=some [(0,3)]:=by kernel_rfl
theorem PT251:Tryz.prog.underlying 251=some (.pointer (Tryz.prog.pointee 251)):=by kernel_rfl
theorem C142:callB Tryz.prog 142=true:=by kernel_rfl
theorem C91:callB Tryz.prog 91=true:=by kernel_rfl
theorem C92:callB Tryz.prog 92=true:=by kernel_rfl
theorem F116_0:faB Tryz.prog 116 0=some (0,1,true):=by kernel_rfl
theorem F116_1:faB Tryz.prog 116 1=some (1,1,true):=by kernel_rfl
theorem F116_2:faB Tryz.prog 116 2=some (2,1,true):=by kernel_rfl
theorem F43_0:faB Tryz.prog 43 0=some (0,4,false):=by kernel_rfl
theorem F43_1:faB Tryz.prog 43 1=some (4,1,true):=by kernel_rfl
theorem F43_2:faB Tryz.prog 43 2=some (5,1,true):=by kernel_rfl
theorem I116:tiB Tryz.prog 116=some ([(vU32 0),(vU8 0),(str [])],3,24):=by kernel_rfl
theorem C196:callB Tryz.prog 196=true:=by kernel_rfl
theorem CO249:Tryz.prog.cellsOf 249=2:=by kernel_rfl
theorem F249_0:faB Tryz.prog 249 0=some (0,2,false):=by kernel_rfl
theorem LI249_175:liesAt Tryz.prog Tryz.prog.depth 249 1 0 175 1=true:=by kernel_rfl
theorem C156:callB Tryz.prog 156=true:=by kernel_rfl
theorem C41:callB Tryz.prog 41=true:=by kernel_rfl
theorem F40_3:faB Tryz.prog 40 3=some (3,1,true):=by kernel_rfl
theorem I249:tiB Tryz.prog 249=some ([(.pointer none),(.slice none 0 0)],2,32):=by kernel_rfl
theorem I43:tiB Tryz.prog 43=some ([(vU32 0),(.slice none 0 0),(.slice none 0 0),(.bool false),(vU32 0),(.slice none 0 0)],6,96):=by kernel_rfl
theorem C56:callB Tryz.prog 56=true:=by kernel_rfl
theorem C70:callB Tryz.prog 70=true:=by kernel_rfl
theorem I41:tiB Tryz.prog 41=some ([(.slice none 0 0)],1,24):=by kernel_rfl
theorem C158:callB Tryz.prog 158=true:=by kernel_rfl
theorem C159:callB Tryz.prog 159=true:=by kernel_rfl
theorem C200:callB Tryz.prog 200=true:=by kernel_rfl
theorem F254_0:faB Tryz.prog 254 0=some (0,1,true):=by kernel_rfl
theorem I254:tiB Tryz.prog 254=some ([(.pointer none)],1,8):=by kernel_rfl
theorem PL116:plB Tryz.prog 116=some [(0,1),(1,1),(2,1)]:=by kernel_rfl
theorem C157:callB Tryz.prog 157=true:=by kernel_rfl
theorem C160:callB Tryz.prog 160=true:=by kernel_rfl
theorem C161:callB Tryz.prog 161=true:=by kernel_rfl
theorem I4:tiB Tryz.prog 4=some ([(.bool false)],1,1):=by kernel_rfl
theorem PL254:plB Tryz.prog 254=some [(0,1)]:=by kernel_rfl
theorem PL43:plB Tryz.prog 43=some [(0,4),(4,1),(5,1)]:=by kernel_rfl
theorem C113:callB Tryz.prog 113=true:=by kernel_rfl
theorem C114:callB Tryz.prog 114=true:=by kernel_rfl
theorem C55:callB Tryz.prog 55=true:=by kernel_rfl
theorem F105_0:faB Tryz.prog 105 0=some (0,6,false):=by kernel_rfl
theorem F105_1:faB Tryz.prog 105 1=some (6,1,true):=by kernel_rfl
theorem I105:tiB Tryz.prog 105=some ([(vU32 0),(.slice none 0 0),(.slice none 0 0),(.bool false),(vU32 0),(.slice none 0 0),(str [])],7,112):=by kernel_rfl
theorem PL105:plB Tryz.prog 105=some [(0,6),(6,1)]:=by kernel_rfl
theorem C115:callB Tryz.prog 115=true:=by kernel_rfl
theorem C116:callB Tryz.prog 116=true:=by kernel_rfl
theorem C124:callB Tryz.prog 124=true:=by kernel_rfl
theorem F165_0:faB Tryz.prog 165 0=some (0,1,true):=by kernel_rfl
theorem F211_0:faB Tryz.prog 211 0=some (0,1,true):=by kernel_rfl
theorem I165:tiB Tryz.prog 165=some ([(.map none)],1,8):=by kernel_rfl
theorem PL165:plB Tryz.prog 165=some [(0,1)]:=by kernel_rfl
theorem PT163:Tryz.prog.underlying 163=some (.pointer (Tryz.prog.pointee 163)):=by kernel_rfl
theorem Z163:zvB Tryz.prog 163=some (.pointer none):=by kernel_rfl
theorem C167:callB Tryz.prog 167=true:=by kernel_rfl
theorem F211_1:faB Tryz.prog 211 1=some (1,256,false):=by kernel_rfl
theorem PT68:Tryz.prog.underlying 68=some (.pointer (Tryz.prog.pointee 68)):=by kernel_rfl
theorem C165:callB Tryz.prog 165=true:=by kernel_rfl
theorem C166:callB Tryz.prog 166=true:=by kernel_rfl
theorem I211:tiB Tryz.prog 211=some ((List.replicate 257 (vU8 0)),257,257):=by kernel_rfl
theorem PL211:plB Tryz.prog 211=some [(0,1),(1,256)]:=by kernel_rfl
theorem C122:callB Tryz.prog 122=true:=by kernel_rfl
theorem C123:callB Tryz.prog 123=true:=by kernel_rfl
theorem F125_1:faB Tryz.prog 125 1=some (6,1,true):=by kernel_rfl
theorem C73:callB Tryz.prog 73=true:=by kernel_rfl
theorem C74:callB Tryz.prog 74=true:=by kernel_rfl
theorem F125_0:faB Tryz.prog 125 0=some (0,6,false):=by kernel_rfl
theorem I125:tiB Tryz.prog 125=some ([(vU32 0),(.slice none 0 0),(.slice none 0 0),(.bool false),(vU32 0),(.slice none 0 0),(.pointer none)],7,104):=by kernel_rfl
theorem PL125:plB Tryz.prog 125=some [(0,6),(6,1)]:=by kernel_rfl
theorem C217:callB Tryz.prog 217=true:=by kernel_rfl
theorem C241:callB Tryz.prog 241=true:=by kernel_rfl
theorem C236:callB Tryz.prog 236=true:=by kernel_rfl
theorem C239:callB Tryz.prog 239=true:=by kernel_rfl
theorem C240:callB Tryz.prog 240=true:=by kernel_rfl
theorem C249:callB Tryz.prog 249=true:=by kernel_rfl
theorem C182:callB Tryz.prog 182=true:=by kernel_rfl
theorem C221:callB Tryz.prog 221=true:=by kernel_rfl
theorem C237:callB Tryz.prog 237=true:=by kernel_rfl
theorem C238:callB Tryz.prog 238=true:=by kernel_rfl
theorem I337:tiB Tryz.prog 337=some ([(vU64 0)],1,8):=by kernel_rfl
theorem C181:callB Tryz.prog 181=true:=by kernel_rfl
theorem C211:callB Tryz.prog 211=true:=by kernel_rfl
theorem C212:callB Tryz.prog 212=true:=by kernel_rfl
theorem C213:callB Tryz.prog 213=true:=by kernel_rfl
theorem C214:callB Tryz.prog 214=true:=by kernel_rfl
theorem C215:callB Tryz.prog 215=true:=by kernel_rfl
theorem C216:callB Tryz.prog 216=true:=by kernel_rfl
theorem C218:callB Tryz.prog 218=true:=by kernel_rfl
theorem C219:callB Tryz.prog 219=true:=by kernel_rfl
theorem C145:callB Tryz.prog 145=true:=by kernel_rfl
theorem C180:callB Tryz.prog 180=true:=by kernel_rfl
theorem C143:callB Tryz.prog 143=true:=by kernel_rfl
theorem C144:callB Tryz.prog 144=true:=by kernel_rfl
theorem C95:callB Tryz.prog 95=true:=by kernel_rfl
theorem C96:callB Tryz.prog 96=true:=by kernel_rfl
theorem I209:tiB Tryz.prog 209=some ((List.replicate 256 (vU8 0)),256,256):=by kernel_rfl
theorem C175:callB Tryz.prog 175=true:=by kernel_rfl
theorem C176:callB Tryz.prog 176=true:=by kernel_rfl
theorem I120:tiB Tryz.prog 120=some ([(vU8 0),(vU32 0),(vN 0)],3,16):=by kernel_rfl
theorem I234:tiB Tryz.prog 234=some ([(.pointer none),(.slice none 0 0)],2,32):=by kernel_rfl
theorem I236:tiB Tryz.prog 236=some ([(.pointer none),(.slice none 0 0),(.pointer none),(vN 0),(vU8 0),(vU32 0),(vN 0),(str [])],8,80):=by kernel_rfl
theorem I242:tiB Tryz.prog 242=some ([(vU32 0),(vU32 0),(vU32 0),(vU32 0),(vU32 0),(vU32 0),(vU32 0),(vU32 0),(vU32 0),(vU32 0),(vU32 0),(vU32 0),(vU32 0),(vU32 0),(vU32 0),(vU32 0),(vU32 0)],17,68):=by kernel_rfl
theorem PL120:plB Tryz.prog 120=some [(0,1),(1,1),(2,1)]:=by kernel_rfl
theorem PL234:plB Tryz.prog 234=some [(0,1),(1,1)]:=by kernel_rfl
theorem PL236:plB Tryz.prog 236=some [(0,2),(2,1),(3,1),(4,3),(7,1)]:=by kernel_rfl
theorem PL242:plB Tryz.prog 242=some [(0,16),(16,1)]:=by kernel_rfl
theorem C104:callB Tryz.prog 104=true:=by kernel_rfl
theorem C121:callB Tryz.prog 121=true:=by kernel_rfl
theorem C130:callB Tryz.prog 130=true:=by kernel_rfl
theorem C131:callB Tryz.prog 131=true:=by kernel_rfl
theorem C59:callB Tryz.prog 59=true:=by kernel_rfl
theorem C93:callB Tryz.prog 93=true:=by kernel_rfl
theorem C94:callB Tryz.prog 94=true:=by kernel_rfl
theorem F142_0:faB Tryz.prog 142 0=some (0,1,true):=by kernel_rfl
theorem F142_2:faB Tryz.prog 142 2=some (2,1,true):=by kernel_rfl
theorem F146_1:faB Tryz.prog 146 1=some (1,27,false):=by kernel_rfl
theorem F146_2:faB Tryz.prog 146 2=some (28,1,true):=by kernel_rfl
theorem F193_1:faB Tryz.prog 193 1=some (2,1,true):=by kernel_rfl
theorem F234_0:faB Tryz.prog 234 0=some (0,1,true):=by kernel_rfl
theorem F236_0:faB Tryz.prog 236 0=some (0,2,false):=by kernel_rfl
theorem F236_3:faB Tryz.prog 236 3=some (4,3,false):=by kernel_rfl
theorem I142:tiB Tryz.prog 142=some ([(.bool false),(vN 0),(.pointer none)],3,24):=by kernel_rfl
theorem PT140:Tryz.prog.underlying 140=some (.pointer (Tryz.prog.pointee 140)):=by kernel_rfl
theorem C132:callB Tryz.prog 132=true:=by kernel_rfl
theorem PL142:plB Tryz.prog 142=some [(0,1),(1,1),(2,1)]:=by kernel_rfl
theorem C133:callB Tryz.prog 133=true:=by kernel_rfl
theorem C134:callB Tryz.prog 134=true:=by kernel_rfl
theorem C44:callB Tryz.prog 44=true:=by kernel_rfl
theorem F142_1:faB Tryz.prog 142 1=some (1,1,true):=by kernel_rfl
theorem I140:tiB Tryz.prog 140=some ([(.pointer none)],1,8):=by kernel_rfl
theorem C32:callB Tryz.prog 32=true:=by kernel_rfl
theorem C86:callB Tryz.prog 86=true:=by kernel_rfl
theorem C87:callB Tryz.prog 87=true:=by kernel_rfl
theorem C88:callB Tryz.prog 88=true:=by kernel_rfl
theorem C89:callB Tryz.prog 89=true:=by kernel_rfl
theorem C40:callB Tryz.prog 40=true:=by kernel_rfl
theorem C57:callB Tryz.prog 57=true:=by kernel_rfl
theorem C18:callB Tryz.prog 18=true:=by kernel_rfl
theorem C21:callB Tryz.prog 21=true:=by kernel_rfl
theorem C22:callB Tryz.prog 22=true:=by kernel_rfl
theorem C71:callB Tryz.prog 71=true:=by kernel_rfl
theorem C72:callB Tryz.prog 72=true:=by kernel_rfl
theorem F120_0:faB Tryz.prog 120 0=some (0,1,true):=by kernel_rfl
theorem PL40:plB Tryz.prog 40=some [(0,1),(1,1),(2,1),(3,1)]:=by kernel_rfl
theorem C19:callB Tryz.prog 19=true:=by kernel_rfl
theorem C30:callB Tryz.prog 30=true:=by kernel_rfl
theorem C31:callB Tryz.prog 31=true:=by kernel_rfl
theorem C105:callB Tryz.prog 105=true:=by kernel_rfl
theorem C84:callB Tryz.prog 84=true:=by kernel_rfl
theorem C85:callB Tryz.prog 85=true:=by kernel_rfl
theorem F81_1:faB Tryz.prog 81 1=some (1,9,false):=by kernel_rfl
theorem I81:tiB Tryz.prog 81=some ([(vU32 0),(.bool false),(.bool false),(.bool false),(.bool false),(.bool false),(.bool false),(.bool false),(.bool false),(.bool false),(vN 0)],11,24):=by kernel_rfl
theorem PL81:plB Tryz.prog 81=some [(0,1),(1,9),(10,1)]:=by kernel_rfl
theorem C46:callB Tryz.prog 46=true:=by kernel_rfl
theorem C36:callB Tryz.prog 36=true:=by kernel_rfl
theorem C38:callB Tryz.prog 38=true:=by kernel_rfl
theorem C39:callB Tryz.prog 39=true:=by kernel_rfl
end Fa
end Go.Proofs.YtbjhccnffacbcaaGreat
namespace Go.Proofs.YtbjhccnffacbcaaGreat
open Go.Owl Go.Spec
theorem turn_ok (x:UInt32) (n:Nat) (hn:n≤32) (w:World) :
  Calls Tryz.prog 245 #[(vU32 x),(vN n)] w (fun e w'=>e=.returned (vU32 (rot x n))∧Fr [] w w'):=by
 refine enter (args:=[(vU32 x),(vN n)]) Tryz.func245 rfl rfl ?_
 have H0:Owl.Own [] w w []:=Own.start w []
 refine ws<|wa rfl<|wn<|WC.seq<|WC.draw 9 Fa.M H0 (mh rfl<|mh rfl<|oh (fun w1 H1=>op_shrU32 rfl rfl zr)<|mh rfl<|mh rfl<|oh (fun w1 H1=>op_subN (a:=32) rfl rfl (by omega) (by omega) zr)<|oh (fun w1 H1=>op_shlU32 rfl rfl zr)<|oh (fun w1 H1=>op_orU32 rfl rfl zr)<|ah rfl  HW.nil) (by kernel_rfl) ?_
 intro β1 w1 H1
 exact wn<|WC.ret<|WQ.out (.tmp rfl .nil) (⟨rfl,H1.fr⟩)
theorem first_ok  (w:World) :
  Calls Tryz.prog 226 #[] w (fun e w'=>e=.returned (.agg #[vU32 firstS.a,vU32 firstS.b,vU32 firstS.c,vU32 firstS.d,vU32 firstS.e,vU32 firstS.f,vU32 firstS.g,vU32 firstS.h])∧Fr [] w w'):=by
 refine enter (args:=[]) Tryz.func226 rfl rfl ?_
 have H0:Owl.Own [] w w []:=Own.start w []
 exact ws<|wo (op_alloc H0 Fa.I322 (fun b1 w1 H1=>(wn<|ws<|wo (op_buildA (cs:=[_,_,_,_,_,_,_,_]) Fa.I322 Tryz.underlying322 Fa.I22 rfl rfl<|wo (op_storeBW (i:=0) H1 rfl rfl rfl rfl rfl Fa.I322 (fun w2 H2=>(wn<|WC.ret<|WQ.out (.cell rfl (run_loadVarS (vs:=[_,_,_,_,_,_,_,_]) (H2.cells (i:=0) rfl rfl) Tryz.underlying322 rfl Fa.I322 rfl) .nil) (⟨rfl,H2.fr⟩))))))))
theorem keys_ok  (w:World) :
  Calls Tryz.prog 244 #[] w (fun e w'=>e=.returned (.agg (keyL.map vU32).toArray)∧Fr [] w w'):=by
 refine enter (args:=[]) Tryz.func244 rfl rfl ?_
 have H0:Owl.Own [] w w []:=Own.start w []
 exact ws<|wo (op_alloc H0 Fa.I344 (fun b1 w1 H1=>(wn<|ws<|wo (op_buildA (cs:=keyL.map vU32) Fa.I344 Tryz.underlying344 Fa.I22 rfl (by kernel_rfl)<|wo (op_storeBV (i:=0) H1 rfl rfl rfl (by kernel_rfl) (one_U32 _) (by kernel_rfl) Fa.I344 (fun w2 H2=>(wn<|WC.ret<|WQ.out (.cell rfl (run_loadVarS (H2.cellsW (i:=0) rfl) Tryz.underlying344 rfl Fa.I344 (by kernel_rfl)) .nil) (⟨rfl,H2.fr⟩))))))))
theorem words_ok (v:Value) (b:List UInt8) (w:World) (hl:b.length=64) (hA:Arr w v 1 64 (b.map vU8)) :
  Calls Tryz.prog 243 #[v] w (fun e w'=>e=.returned (.agg ((wl b 64).map vU32).toArray)∧Fr [] w w'):=by
 refine enter (args:=[v]) Tryz.func243 rfl rfl ?_
 have H0:Owl.Own [] w w []:=Own.start w []
 refine ws<|wo (op_alloc H0 Fa.I344 (fun b1 w1 H1=>(wn<|WC.seq<|ws<|wm rfl<|wn<|WC.block<|WC.loop (α:=Nat) (fun k=>[(0,v),(2,(ptr b1 0)),(7,(vN k))]) (fun k w'=>(k≤16)∧Owl.Own [] w w' [.blk b1 (wC b k) 344]) (fun k=>16-k) 0 ⟨(by omega),H1⟩ ⟨rfl,rfl,rfl,trivial⟩ ?_)))
 rintro k w2 ⟨hinv,H2⟩
 show WC _ _ _ _ _ [(0,v),(2,(ptr b1 0)),(7,(vN k))] _
 refine ws<|wo (op_lssN (b:=16) rfl rfl<|wn<|WC.seq (wC (decide (k<16)) (fun hb3=>?_) (fun hb3=>?_)))
 ·
  have hc3:=dT hb3
  refine WC.skip<|WQ.next<|WC.seq<|WC.block<|ws<|wm rfl<|wa rfl<|wn<|WC.draw 35 Fa.M H2 (mh rfl<|mh rfl<|mh rfl<|oh (fun w1 H1=>op_mulN (a:=4) rfl rfl (by omega) zr)<|oh (fun w1 H1=>op_indexAddr1 Tryz.underlying114 Fa.I5 rfl (H1.arr hA) rfl (by omega) zr)<|oh (fun w1 H1=>op_load rfl ((H1.arr hA).at (get_map vU8 0 (by omega))) Tryz.underlying5 rfl zr)<|oh (fun w1 H1=>op_convU8U32 (hs:=Tryz.underlying5) (hd:=Tryz.underlying22) rfl zr)<|oh (fun w1 H1=>op_shlU32 (s:=24) rfl rfl zr)<|mh rfl<|mh rfl<|oh (fun w1 H1=>op_mulN (a:=4) rfl rfl (by omega) zr)<|oh (fun w1 H1=>op_addN (b:=1) rfl rfl (by omega) zr)<|oh (fun w1 H1=>op_indexAddr1 Tryz.underlying114 Fa.I5 rfl (H1.arr hA) rfl (by omega) zr)<|oh (fun w1 H1=>op_load rfl ((H1.arr hA).at (get_map vU8 0 (by omega))) Tryz.underlying5 rfl zr)<|oh (fun w1 H1=>op_convU8U32 (hs:=Tryz.underlying5) (hd:=Tryz.underlying22) rfl zr)<|oh (fun w1 H1=>op_shlU32 (s:=16) rfl rfl zr)<|oh (fun w1 H1=>op_orU32 rfl rfl zr)<|mh rfl<|mh rfl<|oh (fun w1 H1=>op_mulN (a:=4) rfl rfl (by omega) zr)<|oh (fun w1 H1=>op_addN (b:=2) rfl rfl (by omega) zr)<|oh (fun w1 H1=>op_indexAddr1 Tryz.underlying114 Fa.I5 rfl (H1.arr hA) rfl (by omega) zr)<|oh (fun w1 H1=>op_load rfl ((H1.arr hA).at (get_map vU8 0 (by omega))) Tryz.underlying5 rfl zr)<|oh (fun w1 H1=>op_convU8U32 (hs:=Tryz.underlying5) (hd:=Tryz.underlying22) rfl zr)<|oh (fun w1 H1=>op_shlU32 (s:=8) rfl rfl zr)<|oh (fun w1 H1=>op_orU32 rfl rfl zr)<|mh rfl<|mh rfl<|oh (fun w1 H1=>op_mulN (a:=4) rfl rfl (by omega) zr)<|oh (fun w1 H1=>op_addN (b:=3) rfl rfl (by omega) zr)<|oh (fun w1 H1=>op_indexAddr1 Tryz.underlying114 Fa.I5 rfl (H1.arr hA) rfl (by omega) zr)<|oh (fun w1 H1=>op_load rfl ((H1.arr hA).at (get_map vU8 0 (by omega))) Tryz.underlying5 rfl zr)<|oh (fun w1 H1=>op_convU8U32 (hs:=Tryz.underlying5) (hd:=Tryz.underlying22) rfl zr)<|oh (fun w1 H1=>op_orU32 rfl rfl zr)<|oh (fun w1 H1=>op_indexAddrA1 Tryz.underlying344 Fa.I22 rfl rfl (by omega) zr)  HW.nil) (by kernel_rfl) ?_
  intro β4 w4 H4
  refine wo (op_storeB (i:=0) H4 rfl rfl rfl (by rw [Nat.blt_eq,wC_length _ _ (by omega)]; omega) rfl Fa.I22 (fun w5 H5=>?_))
  exact WL.nil<|WQ.inNormal<|WQ.next<|WC.region<|wo (op_addN (b:=1) rfl rfl (by omega)<|wm rfl<|WL.nil<|WQ.round (k+1) ⟨(by omega),(by rw [wC_set b (k:=k) (by omega),if_pos (by omega)]; exact H5)⟩ ⟨rfl,rfl,rfl,trivial⟩ (by omega))
 ·
  have hc3:=dF hb3
  refine WC.exit<|WQ.thenExit<|WQ.thenExit<|WQ.inHere<|WQ.next<|WC.seq<|ws<|wa rfl<|wn<|WC.block<|WC.loop (α:=Nat) (fun k=>[(0,v),(2,(ptr b1 0)),(4,(vN k))]) (fun k w'=>((16≤k∧k≤64))∧Owl.Own [] w w' [.blk b1 (wC b k) 344]) (fun k=>64-k) 16 ⟨(by omega),(by have hk:k=16:=(by omega); subst hk; exact H2)⟩ ⟨rfl,rfl,rfl,trivial⟩ ?_
  rintro k w6 ⟨hinv,H6⟩
  show WC _ _ _ _ _ [(0,v),(2,(ptr b1 0)),(4,(vN k))] _
  refine WC.seq<|ws<|wm rfl<|wo (op_lssN (b:=64) rfl rfl<|wn (wC (decide (k<64)) (fun hb7=>?_) (fun hb7=>?_)))
  ·
   have hc7:=dT hb7
   refine WC.skip<|WQ.next<|WC.seq<|WC.block<|WC.seq<|WC.draw 10 Fa.M H6 (mh rfl<|oh (fun w1 H1=>op_subN (b:=15) rfl rfl (by omega) (by omega) zr)<|oh (fun w1 H1=>op_indexAddrA1 Tryz.underlying344 Fa.I22 rfl rfl (by omega) zr)<|oh (fun w1 H1=>op_load rfl (H1.cell (i:=0) rfl (wC_get b (by omega))) Tryz.underlying22 rfl zr)<|mh rfl<|oh (fun w1 H1=>op_subN (b:=2) rfl rfl (by omega) (by omega) zr)<|oh (fun w1 H1=>op_indexAddrA1 Tryz.underlying344 Fa.I22 rfl rfl (by omega) zr)<|oh (fun w1 H1=>op_load rfl (H1.cell (i:=0) rfl (wC_get b (by omega))) Tryz.underlying22 rfl zr)<|ah rfl<|ah rfl  HW.nil) (by kernel_rfl) ?_
   intro β8 w8 H8
   refine wn<|WC.draw 29 Fa.M H8 (mh rfl<|mh rfl<|oh (fun w1 H1=>op_subN (b:=16) rfl rfl (by omega) (by omega) zr)<|oh (fun w1 H1=>op_indexAddrA1 Tryz.underlying344 Fa.I22 rfl rfl (by omega) zr)<|oh (fun w1 H1=>op_load rfl (H1.cell (i:=0) rfl (wC_get b (by omega))) Tryz.underlying22 rfl zr)<|mh rfl<|oh (fun w1 H1=>op_callF Fa.C245 rfl ((turn_ok ((wl b k).getD (k-15) 0) 7 (by decide) _).mono (fun e w2 hq=>⟨_,hq.1,rfl,hq.2⟩)))<|mh rfl<|oh (fun w1 H1=>op_callF Fa.C245 rfl ((turn_ok ((wl b k).getD (k-15) 0) 18 (by decide) _).mono (fun e w2 hq=>⟨_,hq.1,rfl,hq.2⟩)))<|oh (fun w1 H1=>op_xorU32 rfl rfl zr)<|mh rfl<|oh (fun w1 H1=>op_shrU32 (s:=3) rfl rfl zr)<|oh (fun w1 H1=>op_xorU32 rfl rfl zr)<|oh (fun w1 H1=>op_addU32 rfl rfl zr)<|mh rfl<|oh (fun w1 H1=>op_subN (b:=7) rfl rfl (by omega) (by omega) zr)<|oh (fun w1 H1=>op_indexAddrA1 Tryz.underlying344 Fa.I22 rfl rfl (by omega) zr)<|oh (fun w1 H1=>op_load rfl (H1.cell (i:=0) rfl (wC_get b (by omega))) Tryz.underlying22 rfl zr)<|oh (fun w1 H1=>op_addU32 rfl rfl zr)<|mh rfl<|oh (fun w1 H1=>op_callF Fa.C245 rfl ((turn_ok ((wl b k).getD (k-2) 0) 17 (by decide) _).mono (fun e w2 hq=>⟨_,hq.1,rfl,hq.2⟩)))<|mh rfl<|oh (fun w1 H1=>op_callF Fa.C245 rfl ((turn_ok ((wl b k).getD (k-2) 0) 19 (by decide) _).mono (fun e w2 hq=>⟨_,hq.1,rfl,hq.2⟩)))<|oh (fun w1 H1=>op_xorU32 rfl rfl zr)<|mh rfl<|oh (fun w1 H1=>op_shrU32 (s:=10) rfl rfl zr)<|oh (fun w1 H1=>op_xorU32 rfl rfl zr)<|oh (fun w1 H1=>op_addU32 rfl rfl zr)<|oh (fun w1 H1=>op_indexAddrA1 Tryz.underlying344 Fa.I22 rfl rfl (by omega) zr)  HW.nil) (by kernel_rfl) ?_
   intro β13 w13 H13
   refine wo (op_storeB (i:=0) H13 rfl rfl rfl (by rw [Nat.blt_eq,wC_length _ _ (by omega)]; omega) rfl Fa.I22 (fun w14 H14=>?_))
   exact WL.nil<|WQ.inNormal<|WQ.next<|WC.region<|wm rfl<|wo (op_addN (b:=1) rfl rfl (by omega)<|wa rfl<|WL.nil<|WQ.round (k+1) ⟨(by omega),(by rw [wC_set b (k:=k) (by omega),if_neg (by omega)]; exact H14)⟩ ⟨rfl,rfl,rfl,trivial⟩ (by omega))
  ·
   have hc7:=dF hb7
   refine WC.exit<|WQ.thenExit<|WQ.thenExit<|WQ.inHere<|WQ.next<|ws<|wo (op_loadS rfl (H6.cellsW (i:=0) rfl) Tryz.underlying344 rfl Fa.I344 (wC_length _ _ (by omega))<|wo (op_storeBV (i:=0) H6 rfl rfl rfl (by rw [wC_length _ _ (by omega)]; exact Nat.beq_refl 64) (by have hk:k=64:=(by omega); subst hk; rw [wC_end]; exact one_U32 _) (wC_length _ _ (by omega)) Fa.I344 (fun w15 H15=>?_)))
   exact wn<|WC.ret<|WQ.out (.cell rfl (run_loadVarS (H15.cellsW (i:=0) rfl) Tryz.underlying344 rfl Fa.I344 (wC_length _ _ (by omega))) .nil) (⟨by have hk:k=64:=(by omega); subst hk; rw [←wC_end]; rfl,H15.fr⟩)
theorem block_ok (h:St) (v:Value) (b:List UInt8) (w:World) (hl:b.length=64) (hA:Arr w v 1 64 (b.map vU8)) :
  Calls Tryz.prog 228 #[(.agg #[(vU32 h.a),(vU32 h.b),(vU32 h.c),(vU32 h.d),(vU32 h.e),(vU32 h.f),(vU32 h.g),(vU32 h.h)]),v] w (fun e w'=>e=.returned (.agg #[vU32 (blockS h b).a,vU32 (blockS h b).b,vU32 (blockS h b).c,vU32 (blockS h b).d,vU32 (blockS h b).e,vU32 (blockS h b).f,vU32 (blockS h b).g,vU32 (blockS h b).h])∧Fr [] w w'):=by
 refine enter (args:=[(.agg #[(vU32 h.a),(vU32 h.b),(vU32 h.c),(vU32 h.d),(vU32 h.e),(vU32 h.f),(vU32 h.g),(vU32 h.h)]),v]) Tryz.func228 rfl rfl ?_
 have H0:Owl.Own [] w w []:=Own.start w []
 refine ws<|wo (op_box H0 rfl rfl (fun b1 w1 H1=>(wo (op_alloc H1 Fa.I322 (fun b2 w2 H2=>(wn<|WC.seq<|WC.draw 7 Fa.M H2 (oh (fun w1 H1=>op_loadS (vs:=[_,_,_,_,_,_,_,_]) rfl (H1.cells (i:=0) rfl rfl) Tryz.underlying322 rfl Fa.I322 rfl zr)<|mh rfl<|oh (fun w1 H1=>op_callF Fa.C243 rfl ((words_ok _ _ _ hl (H1.arr hA)).mono (fun e w2 hq=>⟨_,hq.1,rfl,hq.2⟩)))<|oh (fun w1 H1=>op_callF Fa.C244 rfl ((keys_ok _).mono (fun e w2 hq=>⟨_,hq.1,rfl,hq.2⟩)))<|HW.flt (mk:=fun bq=>ptr bq.1 0) (ent:=fun bq=>.blk bq.1 _ _) rfl (fun w1 _=>op_alloc (Own.start w1 []) Fa.I322 (fun bq w2 H2=>⟨(bq,undef),rfl,H2,True.intro⟩))<|HW.flt (mk:=fun bq=>ptr bq.1 0) (ent:=fun bq=>.blk bq.1 _ _) rfl (fun w1 _=>op_alloc (Own.start w1 []) Fa.I344 (fun bq w2 H2=>⟨(bq,undef),rfl,H2,True.intro⟩))<|HW.flt (mk:=fun bq=>ptr bq.1 0) (ent:=fun bq=>.blk bq.1 _ _) rfl (fun w1 _=>op_alloc (Own.start w1 []) Fa.I344 (fun bq w2 H2=>⟨(bq,undef),rfl,H2,True.intro⟩))  HW.nil) (by kernel_rfl) ?_))))))
 intro β5 w5 H5
 refine wo (op_storeBW (i:=2) H5 rfl rfl rfl rfl rfl Fa.I322 (fun w6 H6=>(wo (op_storeBV (i:=3) H6 rfl rfl rfl (by rw [List.length_map,wl_length,List.length_replicate]; rfl) (one_U32 _) (by rw [List.length_map,wl_length]) Fa.I344 (fun w7 H7=>(wo (op_storeBV (i:=4) H7 rfl rfl rfl (by kernel_rfl) (one_U32 _) (by kernel_rfl) Fa.I344 (fun w8 H8=>(wn<|WC.seq<|ws<|wm rfl<|wn<|WC.block<|WC.loop (α:=Nat) (fun t=>[(2,(ptr b1 0)),(4,(ptr b2 0)),(5,(ptr (β5 4).1 0)),(6,(ptr (β5 5).1 0)),(7,(ptr (β5 6).1 0)),(16,(vN t))]) (fun t w'=>(t≤64)∧Owl.Own [] w w' [.blk b1 [(vU32 h.a),(vU32 h.b),(vU32 h.c),(vU32 h.d),(vU32 h.e),(vU32 h.f),(vU32 h.g),(vU32 h.h)] 322,.blk b2 [(vU32 0),(vU32 0),(vU32 0),(vU32 0),(vU32 0),(vU32 0),(vU32 0),(vU32 0)] 322,.blk (β5 4).1 [(vU32 (rounds h (wl b 64) t).a),(vU32 (rounds h (wl b 64) t).b),(vU32 (rounds h (wl b 64) t).c),(vU32 (rounds h (wl b 64) t).d),(vU32 (rounds h (wl b 64) t).e),(vU32 (rounds h (wl b 64) t).f),(vU32 (rounds h (wl b 64) t).g),(vU32 (rounds h (wl b 64) t).h)] 322,.blk (β5 5).1 ((wl b 64).map vU32) 344,.blk (β5 6).1 (keyL.map vU32) 344]) (fun t=>64-t) 0 ⟨(by omega),H8⟩ ⟨rfl,rfl,rfl,rfl,rfl,rfl,trivial⟩ ?_)))))))))
 rintro t w9 ⟨hinv,H9⟩
 show WC _ _ _ _ _ [(2,(ptr b1 0)),(4,(ptr b2 0)),(5,(ptr (β5 4).1 0)),(6,(ptr (β5 5).1 0)),(7,(ptr (β5 6).1 0)),(16,(vN t))] _
 refine ws<|wo (op_lssN (b:=64) rfl rfl<|wn<|WC.seq (wC (decide (t<64)) (fun hb10=>?_) (fun hb10=>?_)))
 ·
  have hc10:=dT hb10
  refine WC.skip<|WQ.next<|WC.seq<|WC.block<|ws<|wm rfl<|wa rfl<|wn<|WC.seq<|WC.draw 35 Fa.M H9 (oh (fun w1 H1=>op_indexAddrA1 (m:=7) Tryz.underlying322 Fa.I22 rfl rfl (by omega) zr)<|oh (fun w1 H1=>op_load rfl (H1.cell (i:=2) rfl rfl) Tryz.underlying22 rfl zr)<|oh (fun w1 H1=>op_indexAddrA1 (m:=4) Tryz.underlying322 Fa.I22 rfl rfl (by omega) zr)<|oh (fun w1 H1=>op_load rfl (H1.cell (i:=2) rfl rfl) Tryz.underlying22 rfl zr)<|oh (fun w1 H1=>op_callF Fa.C245 rfl ((turn_ok ((rounds h (wl b 64) t).e) 6 (by decide) _).mono (fun e w2 hq=>⟨_,hq.1,rfl,hq.2⟩)))<|oh (fun w1 H1=>op_indexAddrA1 (m:=4) Tryz.underlying322 Fa.I22 rfl rfl (by omega) zr)<|oh (fun w1 H1=>op_load rfl (H1.cell (i:=2) rfl rfl) Tryz.underlying22 rfl zr)<|oh (fun w1 H1=>op_callF Fa.C245 rfl ((turn_ok ((rounds h (wl b 64) t).e) 11 (by decide) _).mono (fun e w2 hq=>⟨_,hq.1,rfl,hq.2⟩)))<|oh (fun w1 H1=>op_xorU32 rfl rfl zr)<|oh (fun w1 H1=>op_indexAddrA1 (m:=4) Tryz.underlying322 Fa.I22 rfl rfl (by omega) zr)<|oh (fun w1 H1=>op_load rfl (H1.cell (i:=2) rfl rfl) Tryz.underlying22 rfl zr)<|oh (fun w1 H1=>op_callF Fa.C245 rfl ((turn_ok ((rounds h (wl b 64) t).e) 25 (by decide) _).mono (fun e w2 hq=>⟨_,hq.1,rfl,hq.2⟩)))<|oh (fun w1 H1=>op_xorU32 rfl rfl zr)<|oh (fun w1 H1=>op_addU32 rfl rfl zr)<|oh (fun w1 H1=>op_indexAddrA1 (m:=4) Tryz.underlying322 Fa.I22 rfl rfl (by omega) zr)<|oh (fun w1 H1=>op_load rfl (H1.cell (i:=2) rfl rfl) Tryz.underlying22 rfl zr)<|oh (fun w1 H1=>op_indexAddrA1 (m:=5) Tryz.underlying322 Fa.I22 rfl rfl (by omega) zr)<|oh (fun w1 H1=>op_load rfl (H1.cell (i:=2) rfl rfl) Tryz.underlying22 rfl zr)<|oh (fun w1 H1=>op_andU32 rfl rfl zr)<|oh (fun w1 H1=>op_indexAddrA1 (m:=6) Tryz.underlying322 Fa.I22 rfl rfl (by omega) zr)<|oh (fun w1 H1=>op_load rfl (H1.cell (i:=2) rfl rfl) Tryz.underlying22 rfl zr)<|oh (fun w1 H1=>op_indexAddrA1 (m:=4) Tryz.underlying322 Fa.I22 rfl rfl (by omega) zr)<|oh (fun w1 H1=>op_load rfl (H1.cell (i:=2) rfl rfl) Tryz.underlying22 rfl zr)<|oh (fun w1 H1=>op_andNotU32 rfl rfl zr)<|oh (fun w1 H1=>op_xorU32 rfl rfl zr)<|oh (fun w1 H1=>op_addU32 rfl rfl zr)<|mh rfl<|oh (fun w1 H1=>op_indexAddrA1 Tryz.underlying344 Fa.I22 rfl rfl (by omega) zr)<|oh (fun w1 H1=>op_load rfl (H1.cell (i:=4) rfl (get_map0 vU32 0 (by rw [keyL_length]; omega))) Tryz.underlying22 rfl zr)<|oh (fun w1 H1=>op_addU32 rfl rfl zr)<|mh rfl<|oh (fun w1 H1=>op_indexAddrA1 Tryz.underlying344 Fa.I22 rfl rfl (by omega) zr)<|oh (fun w1 H1=>op_load rfl (H1.cell (i:=3) rfl (get_map0 vU32 0 (by rw [wl_length]; omega))) Tryz.underlying22 rfl zr)<|oh (fun w1 H1=>op_addU32 rfl rfl zr)<|ah rfl  HW.nil) (by kernel_rfl) ?_
  intro β14 w14 H14
  refine wn<|WC.seq<|WC.draw 30 Fa.M H14 (oh (fun w1 H1=>op_indexAddrA1 (m:=0) Tryz.underlying322 Fa.I22 rfl rfl (by omega) zr)<|oh (fun w1 H1=>op_load rfl (H1.cell (i:=2) rfl rfl) Tryz.underlying22 rfl zr)<|oh (fun w1 H1=>op_callF Fa.C245 rfl ((turn_ok ((rounds h (wl b 64) t).a) 2 (by decide) _).mono (fun e w2 hq=>⟨_,hq.1,rfl,hq.2⟩)))<|oh (fun w1 H1=>op_indexAddrA1 (m:=0) Tryz.underlying322 Fa.I22 rfl rfl (by omega) zr)<|oh (fun w1 H1=>op_load rfl (H1.cell (i:=2) rfl rfl) Tryz.underlying22 rfl zr)<|oh (fun w1 H1=>op_callF Fa.C245 rfl ((turn_ok ((rounds h (wl b 64) t).a) 13 (by decide) _).mono (fun e w2 hq=>⟨_,hq.1,rfl,hq.2⟩)))<|oh (fun w1 H1=>op_xorU32 rfl rfl zr)<|oh (fun w1 H1=>op_indexAddrA1 (m:=0) Tryz.underlying322 Fa.I22 rfl rfl (by omega) zr)<|oh (fun w1 H1=>op_load rfl (H1.cell (i:=2) rfl rfl) Tryz.underlying22 rfl zr)<|oh (fun w1 H1=>op_callF Fa.C245 rfl ((turn_ok ((rounds h (wl b 64) t).a) 22 (by decide) _).mono (fun e w2 hq=>⟨_,hq.1,rfl,hq.2⟩)))<|oh (fun w1 H1=>op_xorU32 rfl rfl zr)<|oh (fun w1 H1=>op_indexAddrA1 (m:=0) Tryz.underlying322 Fa.I22 rfl rfl (by omega) zr)<|oh (fun w1 H1=>op_load rfl (H1.cell (i:=2) rfl rfl) Tryz.underlying22 rfl zr)<|oh (fun w1 H1=>op_indexAddrA1 (m:=1) Tryz.underlying322 Fa.I22 rfl rfl (by omega) zr)<|oh (fun w1 H1=>op_load rfl (H1.cell (i:=2) rfl rfl) Tryz.underlying22 rfl zr)<|oh (fun w1 H1=>op_andU32 rfl rfl zr)<|oh (fun w1 H1=>op_indexAddrA1 (m:=0) Tryz.underlying322 Fa.I22 rfl rfl (by omega) zr)<|oh (fun w1 H1=>op_load rfl (H1.cell (i:=2) rfl rfl) Tryz.underlying22 rfl zr)<|oh (fun w1 H1=>op_indexAddrA1 (m:=2) Tryz.underlying322 Fa.I22 rfl rfl (by omega) zr)<|oh (fun w1 H1=>op_load rfl (H1.cell (i:=2) rfl rfl) Tryz.underlying22 rfl zr)<|oh (fun w1 H1=>op_andU32 rfl rfl zr)<|oh (fun w1 H1=>op_xorU32 rfl rfl zr)<|oh (fun w1 H1=>op_indexAddrA1 (m:=1) Tryz.underlying322 Fa.I22 rfl rfl (by omega) zr)<|oh (fun w1 H1=>op_load rfl (H1.cell (i:=2) rfl rfl) Tryz.underlying22 rfl zr)<|oh (fun w1 H1=>op_indexAddrA1 (m:=2) Tryz.underlying322 Fa.I22 rfl rfl (by omega) zr)<|oh (fun w1 H1=>op_load rfl (H1.cell (i:=2) rfl rfl) Tryz.underlying22 rfl zr)<|oh (fun w1 H1=>op_andU32 rfl rfl zr)<|oh (fun w1 H1=>op_xorU32 rfl rfl zr)<|oh (fun w1 H1=>op_addU32 rfl rfl zr)<|ah rfl  HW.nil) (by kernel_rfl) ?_
  intro β18 w18 H18
  exact wn<|WC.region<|wm rfl<|wm rfl<|wo (op_addU32 rfl rfl<|wo (op_indexAddrA1 (m:=0) Tryz.underlying322 Fa.I22 rfl rfl (by omega)<|wo (op_load rfl (H18.cell (i:=2) rfl rfl) Tryz.underlying22 rfl<|wo (op_indexAddrA1 (m:=1) Tryz.underlying322 Fa.I22 rfl rfl (by omega)<|wo (op_load rfl (H18.cell (i:=2) rfl rfl) Tryz.underlying22 rfl<|wo (op_indexAddrA1 (m:=2) Tryz.underlying322 Fa.I22 rfl rfl (by omega)<|wo (op_load rfl (H18.cell (i:=2) rfl rfl) Tryz.underlying22 rfl<|wo (op_indexAddrA1 (m:=3) Tryz.underlying322 Fa.I22 rfl rfl (by omega)<|wo (op_load rfl (H18.cell (i:=2) rfl rfl) Tryz.underlying22 rfl<|wm rfl<|wo (op_addU32 rfl rfl<|wo (op_indexAddrA1 (m:=4) Tryz.underlying322 Fa.I22 rfl rfl (by omega)<|wo (op_load rfl (H18.cell (i:=2) rfl rfl) Tryz.underlying22 rfl<|wo (op_indexAddrA1 (m:=5) Tryz.underlying322 Fa.I22 rfl rfl (by omega)<|wo (op_load rfl (H18.cell (i:=2) rfl rfl) Tryz.underlying22 rfl<|wo (op_indexAddrA1 (m:=6) Tryz.underlying322 Fa.I22 rfl rfl (by omega)<|wo (op_load rfl (H18.cell (i:=2) rfl rfl) Tryz.underlying22 rfl<|wo (op_buildA (cs:=[_,_,_,_,_,_,_,_]) Fa.I322 Tryz.underlying322 Fa.I22 rfl rfl<|wo (op_storeBW (i:=2) H18 rfl rfl rfl rfl rfl Fa.I322 (fun w19 H19=>(WL.nil<|WQ.inNormal<|WQ.next<|WC.region<|wo (op_addN (b:=1) rfl rfl (by omega)<|wm rfl<|WL.nil<|WQ.round (t+1) ⟨(by omega),(by exact H19)⟩ ⟨rfl,rfl,rfl,rfl,rfl,rfl,trivial⟩ (by omega))))))))))))))))))))))
 ·
  have hc10:=dF hb10
  refine WC.exit<|WQ.thenExit<|WQ.thenExit<|WQ.inHere<|WQ.next<|WC.seq<|ws<|wm rfl<|wn<|WC.block<|WC.loop (α:=Nat) (fun k=>[(2,(ptr b1 0)),(4,(ptr b2 0)),(5,(ptr (β5 4).1 0)),(103,(vN k))]) (fun k w'=>(k≤8)∧Owl.Own [] w w' [.blk b1 (h.vals.map vU32) 322,.blk b2 [(vU32 0),(vU32 0),(vU32 0),(vU32 0),(vU32 0),(vU32 0),(vU32 0),(vU32 0)] 322,.blk (β5 4).1 ((addTo (rounds h (wl b 64) 64) h k).map vU32) 322,.blk (β5 5).1 ((wl b 64).map vU32) 344,.blk (β5 6).1 (keyL.map vU32) 344]) (fun k=>8-k) 0 ⟨(by omega),(by have ht:t=64:=(by omega); subst ht; exact H9)⟩ ⟨rfl,rfl,rfl,rfl,trivial⟩ ?_
  rintro k w20 ⟨hinv,H20⟩
  show WC _ _ _ _ _ [(2,(ptr b1 0)),(4,(ptr b2 0)),(5,(ptr (β5 4).1 0)),(103,(vN k))] _
  refine ws<|wo (op_lssN (b:=8) rfl rfl<|wn<|WC.seq (wC (decide (k<8)) (fun hb21=>?_) (fun hb21=>?_)))
  ·
   have hc21:=dT hb21
   refine WC.skip<|WQ.next<|WC.seq<|WC.block<|ws<|wm rfl<|wa rfl<|wn<|WC.draw 8 Fa.M H20 (mh rfl<|oh (fun w1 H1=>op_indexAddrA1 Tryz.underlying322 Fa.I22 rfl rfl (by omega) zr)<|oh (fun w1 H1=>op_load rfl (H1.cell (i:=2) rfl (get_map0 vU32 0 (by rw [addTo_length _ _ _ (by omega)]; omega))) Tryz.underlying22 rfl zr)<|mh rfl<|oh (fun w1 H1=>op_indexAddrA1 Tryz.underlying322 Fa.I22 rfl rfl (by omega) zr)<|oh (fun w1 H1=>op_load rfl (H1.cell (i:=0) rfl (get_map0 vU32 0 (by rw [vals_length]; omega))) Tryz.underlying22 rfl zr)<|oh (fun w1 H1=>op_addU32 rfl rfl zr)<|oh (fun w1 H1=>op_indexAddrA1 Tryz.underlying322 Fa.I22 rfl rfl (by omega) zr)  HW.nil) (by kernel_rfl) ?_
   intro β22 w22 H22
   refine wo (op_storeB (i:=2) H22 rfl rfl rfl (by rw [Nat.blt_eq,List.length_map,addTo_length _ _ _ (by omega)]; omega) rfl Fa.I22 (fun w23 H23=>?_))
   exact WL.nil<|WQ.inNormal<|WQ.next<|WC.region<|wo (op_addN (b:=1) rfl rfl (by omega)<|wm rfl<|WL.nil<|WQ.round (k+1) ⟨(by omega),(by rw [addTo_map _ _ (by omega)]; exact H23)⟩ ⟨rfl,rfl,rfl,rfl,trivial⟩ (by omega))
  ·
   have hc21:=dF hb21
   refine WC.exit<|WQ.thenExit<|WQ.thenExit<|WQ.inHere<|WQ.next<|ws<|wo (op_loadS rfl (H20.cellsW (i:=2) rfl) Tryz.underlying322 rfl Fa.I322 (by rw [List.length_map,addTo_length _ _ _ (by omega)]) ?_)
   refine wo (op_storeBV (i:=1) H20 rfl rfl rfl (by rw [List.length_map,addTo_length _ _ _ (by omega)]; rfl) (one_U32 _) (by rw [List.length_map,addTo_length _ _ _ (by omega)]) Fa.I322 (fun w24 H24=>?_))
   refine wn<|WC.ret<|WQ.out (.cell rfl (run_loadVarS (H24.cellsW (i:=1) rfl) Tryz.underlying322 rfl Fa.I322 (by rw [List.length_map,addTo_length _ _ _ (by omega)])) .nil) ?_
   exact ⟨by have hk:k=8:=(by omega); subst hk; rw [addTo_end]; rfl,H24.fr⟩
theorem new_ok  (w:World) :
  Calls Tryz.prog 191 #[] w (fun e w'=> ∃q,e=.returned (ptr q 0)∧Owl.Own [] w w' [.blk q [(vU32 (hst ([]:List UInt8)).a),(vU32 (hst ([]:List UInt8)).b),(vU32 (hst ([]:List UInt8)).c),(vU32 (hst ([]:List UInt8)).d),(vU32 (hst ([]:List UInt8)).e),(vU32 (hst ([]:List UInt8)).f),(vU32 (hst ([]:List UInt8)).g),(vU32 (hst ([]:List UInt8)).h),(.slice none 0 0),(vN ([]:List UInt8).length)] 325,.row (.slice none 0 0) 5 1 (hrest ([]:List UInt8)).length ((hrest ([]:List UInt8)).map vU8)]):=by
 refine enter (args:=[]) Tryz.func191 rfl rfl ?_
 have H0:Owl.Own [] w w []:=Own.start w []
 refine ws<|wa rfl<|wn<|ws<|wo (op_callF Fa.C226 rfl ((first_ok _).mono (fun e w1 hq=>?_)))
 obtain ⟨rfl,hf1⟩:=hq
 refine ⟨_,rfl,?_⟩
 have H1:=H0.fr' hf1
 exact wo (op_build (cs:=[_,_,_,_,_,_,_,_,_,_]) Fa.I325 Fa.PL325 rfl rfl<|wo (op_box H1 rfl rfl (fun b2 w2 H2=>(wa rfl<|wn<|WC.ret<|WQ.out (.tmp rfl .nil) (⟨b2,rfl,H2.nilRow _ _⟩)))))
theorem write_ok (q:Nat) (v lv:Value) (all:List UInt8) (ls:List (List UInt8)) (T:List Nat) (w:World) (H:Owl.Own T w w [.blk q [(vU32 (hst all).a),(vU32 (hst all).b),(vU32 (hst all).c),(vU32 (hst all).d),(vU32 (hst all).e),(vU32 (hst all).f),(vU32 (hst all).g),(vU32 (hst all).h),v,(vN all.length)] 325,.row v 5 1 (hrest all).length ((hrest all).map vU8)]) {nl:Nat} (hA: ∀w1,Fr T w w1→Arr w1 lv 1 nl (ls.map str)) (hb:(all++ls.flatten).length<2^40) (hn:ls.length<2^40) :
  Calls Tryz.prog 193 #[(ptr q 0),lv] w (fun e w'=> ∃v,e=.returned (vN 0)∧Owl.Own T w w' [.blk q [(vU32 (hst (all++ls.flatten)).a),(vU32 (hst (all++ls.flatten)).b),(vU32 (hst (all++ls.flatten)).c),(vU32 (hst (all++ls.flatten)).d),(vU32 (hst (all++ls.flatten)).e),(vU32 (hst (all++ls.flatten)).f),(vU32 (hst (all++ls.flatten)).g),(vU32 (hst (all++ls.flatten)).h),v,(vN (all++ls.flatten).length)] 325,.row v 5 1 (hrest (all++ls.flatten)).length ((hrest (all++ls.flatten)).map vU8)]):=by
 refine enter (args:=[(ptr q 0),lv]) Tryz.func193 rfl rfl ?_
 obtain rfl:=(hA w (Fr.refl _ _)).mapLen
 refine ws<|wa rfl<|wn<|WC.seq<|ws<|wm rfl<|wo (op_eqlPN Fa.PT290 rfl rfl<|wn<|WC.no rfl rfl<|WC.skip<|WQ.next<|WC.seq<|ws<|wm rfl<|wo (op_lenA Tryz.underlying59 rfl (hA _ H.fr)<|wm rfl<|wn<|WC.block<|WC.loop (α:=Nat × Value) (fun (k,v)=>[(0,(ptr q 0)),(9,lv),(10,(vN ls.length)),(11,(vN k))]) (fun (k,v) w'=>(k≤ls.length)∧Owl.Own T w w' [.blk q [(vU32 (hst (acc all ls k)).a),(vU32 (hst (acc all ls k)).b),(vU32 (hst (acc all ls k)).c),(vU32 (hst (acc all ls k)).d),(vU32 (hst (acc all ls k)).e),(vU32 (hst (acc all ls k)).f),(vU32 (hst (acc all ls k)).g),(vU32 (hst (acc all ls k)).h),v,(vN (acc all ls k).length)] 325,.row v 5 1 (hrest (acc all ls k)).length (List.map vU8 (hrest (acc all ls k)))]) (fun (k,v)=>ls.length-k) (0,v) ⟨(by omega),H⟩ ⟨rfl,rfl,rfl,rfl,trivial⟩ ?_))
 rintro ⟨k,v⟩ w1 ⟨hinv,H1⟩
 show WC _ _ _ _ _ [(0,(ptr q 0)),(9,lv),(10,(vN ls.length)),(11,(vN k))] _
 have hl0:=acc_len all ls k (by omega)
 have hr0:=hrest_length (acc all ls k)
 refine ws<|wo (op_lssN rfl rfl<|wn<|WC.seq (wC (decide (k<ls.length)) (fun hb2=>?_) (fun hb2=>?_)))
 ·
  have hc2:=dT hb2
  have hl1:=acc_len1 all ls k hc2
  refine WC.skip<|WQ.next<|WC.seq<|WC.block<|ws<|wo (op_indexAddr1 Tryz.underlying59 Fa.I9 rfl (hA _ H1.fr) rfl (by omega)<|wo (op_load rfl ((hA _ H1.fr).at (get_map str [] (by first | omega | (simp; omega)))) Tryz.underlying9 rfl ?_))
  refine wa rfl<|wn<|ws<|wm rfl<|wm rfl<|wo (op_nilCheck rfl<|wo (op_fieldAddr rfl Fa.F325_1<|wo (op_load rfl (H1.cell (i:=0) rfl rfl) Tryz.underlying114 rfl<|wm rfl<|wo (op_appendM (f:=vU8) (l:=(hrest (acc all ls k))) (l':=(ls.getD k [])) (i:=1) H1 Tryz.underlying114 Fa.I5 rfl rfl rfl rfl (Src.ofStr Tryz.underlying9) (one_mapM (fun _=>rfl)) (by omega) (by omega) (fun v3 w3 H3=>(wo (op_nilCheck rfl<|wo (op_fieldAddr rfl Fa.F325_1<|wo (op_storeB (i:=0) H3 rfl rfl rfl rfl (Arr.one (H3.arrR (i:=1) rfl)) Fa.I114 (fun w4 H4=>(wn<|ws<|wm rfl<|wo (op_nilCheck rfl<|wo (op_fieldAddr rfl Fa.F325_2<|wo (op_load rfl (H4.cell (i:=0) rfl rfl) Tryz.underlying3 rfl<|wm rfl<|wo (op_lenStr Tryz.underlying9 rfl<|wo (op_addN rfl rfl (by omega)<|wo (op_nilCheck rfl<|wo (op_fieldAddr rfl Fa.F325_2<|wo (op_storeB (i:=0) H4 rfl rfl rfl rfl rfl Fa.I3 (fun w5 H5=>(wn<|WC.block<|WC.loop (α:=Nat × Value) (fun (j,v)=>[(0,(ptr q 0)),(6,(str (ls.getD k []))),(9,lv),(10,(vN ls.length)),(11,(vN k))]) (fun (j,v) w'=>(64 * j≤(hrest (acc all ls k)).length+(ls.getD k []).length)∧Owl.Own T w w' [.blk q [(vU32 (bst (hst (acc all ls k)) (hrest (acc all ls k)++(ls.getD k [])) j).a),(vU32 (bst (hst (acc all ls k)) (hrest (acc all ls k)++(ls.getD k [])) j).b),(vU32 (bst (hst (acc all ls k)) (hrest (acc all ls k)++(ls.getD k [])) j).c),(vU32 (bst (hst (acc all ls k)) (hrest (acc all ls k)++(ls.getD k [])) j).d),(vU32 (bst (hst (acc all ls k)) (hrest (acc all ls k)++(ls.getD k [])) j).e),(vU32 (bst (hst (acc all ls k)) (hrest (acc all ls k)++(ls.getD k [])) j).f),(vU32 (bst (hst (acc all ls k)) (hrest (acc all ls k)++(ls.getD k [])) j).g),(vU32 (bst (hst (acc all ls k)) (hrest (acc all ls k)++(ls.getD k [])) j).h),v,(vN ((acc all ls k).length+(ls.getD k []).length))] 325,.row v 5 1 (brest (hrest (acc all ls k)++(ls.getD k [])) j).length (List.map vU8 (brest (hrest (acc all ls k)++(ls.getD k [])) j))]) (fun (j,v)=>(hrest (acc all ls k)).length+(ls.getD k []).length-64 * j) (0,v3) ⟨(by omega),(by have h:=H5; rw [← @List.length_append _ (hrest (acc all ls k)) (ls.getD k [])] at h; exact h)⟩ ⟨rfl,rfl,rfl,rfl,rfl,trivial⟩ ?_)))))))))))))))))))))
  rintro ⟨j,v⟩ w6 ⟨hinv,H6⟩
  show WC _ _ _ _ _ [(0,(ptr q 0)),(6,(str (ls.getD k []))),(9,lv),(10,(vN ls.length)),(11,(vN k))] _
  have hb0:=brest_length (hrest (acc all ls k)++(ls.getD k [])) j
  rw [List.length_append] at hb0
  refine WC.seq<|ws<|wm rfl<|wo (op_nilCheck rfl<|wo (op_fieldAddr rfl Fa.F325_1<|wo (op_load rfl (H6.cell (i:=0) rfl rfl) Tryz.underlying114 rfl<|wo (op_lenA Tryz.underlying114 rfl (H6.arrR (i:=1) rfl)<|wo (op_geqN (b:=64) rfl rfl<|wn (wC (decide ((brest (hrest (acc all ls k)++(ls.getD k [])) j).length≥64)) (fun hb7=>?_) (fun hb7=>?_)))))))
  ·
   have hc7:=dT hb7
   refine WC.skip<|WQ.next<|WC.block<|WC.seq<|WC.draw 13 Fa.M H6 (mh rfl<|mh rfl<|oh (fun w1 H1=>op_nilCheck rfl zr)<|oh (fun w1 H1=>op_fieldAddr rfl Fa.F325_0 zr)<|oh (fun w1 H1=>op_loadS (vs:=[_,_,_,_,_,_,_,_]) rfl (H1.cells (i:=0) rfl rfl) Tryz.underlying322 rfl Fa.I322 rfl zr)<|mh rfl<|oh (fun w1 H1=>op_nilCheck rfl zr)<|oh (fun w1 H1=>op_fieldAddr rfl Fa.F325_1 zr)<|oh (fun w1 H1=>op_load rfl (H1.cell (i:=0) rfl rfl) Tryz.underlying114 rfl zr)<|oh (fun w1 H1=>op_cutHi (b:=64) Tryz.underlying114 Fa.I5 rfl (H1.arrR (i:=1) rfl) rfl (by omega) zr)<|oh (fun w1 H1=>op_callF Fa.C228 rfl ((block_ok (bst (hst (acc all ls k)) (hrest (acc all ls k)++(ls.getD k [])) j) _ ((brest (hrest (acc all ls k)++(ls.getD k [])) j).take 64) _ (by rw [List.length_take]; omega) (((H1.arrR (i:=1) rfl)).cutHiM (f:=vU8) (l:=(brest (hrest (acc all ls k)++(ls.getD k [])) j)) (b:=64) (by omega))).mono (fun e w2 hq=>⟨_,hq.1,rfl,hq.2⟩)))<|oh (fun w1 H1=>op_nilCheck rfl zr)<|oh (fun w1 H1=>op_fieldAddr rfl Fa.F325_0 zr)  HW.nil) (by kernel_rfl) ?_
   intro β9 w9 H9
   refine wo (op_storeBS (i:=0) (vs:=[_,_,_,_,_,_,_,_]) H9 rfl rfl rfl rfl rfl Fa.I322 (fun w10 H10=>(wn<|WC.region<|wm rfl<|wm rfl<|wo (op_nilCheck rfl<|wo (op_fieldAddr rfl Fa.F325_1<|wo (op_load rfl (H10.cell (i:=0) rfl rfl) Tryz.underlying114 rfl<|wo (op_cutLo (a:=64) Tryz.underlying114 Fa.I5 rfl (H10.arrR (i:=1) rfl) rfl (by omega) ?_)))))))
   have H11:=H10.cutLoM (f:=vU8) (l:=(brest (hrest (acc all ls k)++(ls.getD k [])) j)) (a:=64) (i:=1) rfl (by omega)
   exact wo (op_nilCheck rfl<|wo (op_fieldAddr rfl Fa.F325_1<|wo (op_storeB (i:=0) H11 rfl rfl rfl rfl (Arr.one (H11.arrR (i:=1) rfl)) Fa.I114 (fun w12 H12=>(WL.nil<|WQ.inNormal<|WQ.round (j+1,(cutV v 64 (brest (hrest (acc all ls k)++(ls.getD k [])) j).length 1)) ⟨(by omega),(by have h:=H12; rw [←List.length_drop] at h; exact h)⟩ ⟨rfl,rfl,rfl,rfl,rfl,trivial⟩ (by show (hrest (acc all ls k)).length+(ls.getD k []).length-64 * (j+1)<(hrest (acc all ls k)).length+(ls.getD k []).length-64 * j; omega))))))
  ·
   have hc7:=dF hb7
   obtain ⟨he1,he2⟩:=mEnd (acc all ls k) (ls.getD k []) j (by omega) (by omega)
   have H13:Owl.Own T w w6 [.blk q [(vU32 (hst (acc all ls (k+1))).a),(vU32 (hst (acc all ls (k+1))).b),(vU32 (hst (acc all ls (k+1))).c),(vU32 (hst (acc all ls (k+1))).d),(vU32 (hst (acc all ls (k+1))).e),(vU32 (hst (acc all ls (k+1))).f),(vU32 (hst (acc all ls (k+1))).g),(vU32 (hst (acc all ls (k+1))).h),v,(vN (acc all ls (k+1)).length)] 325,.row v 5 1 (hrest (acc all ls (k+1))).length (List.map vU8 (hrest (acc all ls (k+1))))]:=by have h:=H6; rw [he1,he2,← @List.length_append _ (acc all ls k) (ls.getD k [])] at h; exact h
   exact WC.exit<|WQ.thenExit<|WQ.thenExit<|WQ.inHere<|WQ.inNormal<|WQ.next<|WC.region<|wo (op_addN (b:=1) rfl rfl (by omega)<|wm rfl<|WL.nil<|WQ.round (k+1,v) ⟨(by omega),H13⟩ ⟨rfl,rfl,rfl,rfl,trivial⟩ (by show ls.length-(k+1)<ls.length-k; omega))
 ·
  have hc2:=dF hb2
  exact WC.exit<|WQ.thenExit<|WQ.thenExit<|WQ.inHere<|WQ.next<|ws<|wa rfl<|wn<|WC.ret<|WQ.out (.tmp rfl .nil) (⟨_,rfl,(by have hk:k=ls.length:=(by omega); subst hk; have h:=H1; rw [acc_end] at h; exact h)⟩)
theorem hsum_ok (q:Nat) (v:Value) (all:List UInt8) (w:World) (hQ:cellsAt w q [(vU32 (hst all).a),(vU32 (hst all).b),(vU32 (hst all).c),(vU32 (hst all).d),(vU32 (hst all).e),(vU32 (hst all).f),(vU32 (hst all).g),(vU32 (hst all).h),v,(vN all.length)]) (hV:Arr w v 1 (hrest all).length (List.map vU8 (hrest all))) (hb:all.length<2^40) :
  Calls Tryz.prog 195 #[(ptr q 0)] w (fun e w'=>e=.returned (str (sha all))∧Fr [] w w'):=by
 refine enter (args:=[(ptr q 0)]) Tryz.func195 rfl rfl ?_
 have H0:Owl.Own [] w w [Ent.bo q [(vU32 (hst all).a),(vU32 (hst all).b),(vU32 (hst all).c),(vU32 (hst all).d),(vU32 (hst all).e),(vU32 (hst all).f),(vU32 (hst all).g),(vU32 (hst all).h),v,(vN all.length)],Ent.ar v 1 (hrest all).length (List.map vU8 (hrest all))]:=(((Own.start w []).oldB hQ).oldA hV)
 have hr0:=hrest_length all
 have hp0:padZ all.length=(119-all.length%64)%64:=rfl
 refine ws<|wa rfl<|wn<|WC.seq<|ws<|wm rfl<|wo (op_eqlPN Fa.PT290 rfl rfl<|wn<|WC.no rfl rfl<|WC.skip<|WQ.next<|ws<|wm rfl<|wo (op_nilCheck rfl<|wo (op_fieldAddr rfl Fa.F325_1<|wo (op_load rfl (H0.cellO (i:=0) rfl rfl) Tryz.underlying114 rfl ?_))))
 have H2:=H0.nilRow 5 1
 refine wo (op_appendM (f:=vU8) (l:=[]) (l':=(hrest all)) (i:=2) H2 Tryz.underlying114 Fa.I5 rfl rfl rfl rfl (Src.ofArr Tryz.underlying114 (H2.arrO (i:=1) rfl)) (one_mapM (fun _=>rfl)) (by omega) (by omega) (fun v1 w1 H1=>(wo (op_buildSlice (cs:=[_]) H1 Tryz.underlying114 Fa.I5 rfl rfl rfl rfl (by decide) (by decide) (fun b3 w3 H3=>(wo (op_appendM (f:=vU8) (l:=([]++(hrest all))) (l':=[128]) (i:=2) H3 Tryz.underlying114 Fa.I5 rfl rfl rfl rfl (Src.ofArr Tryz.underlying114 (H3.arrR (i:=3) rfl)) (one_mapM (fun _=>rfl)) (by omega) (by omega) (fun v4 w4 H4=>(wa rfl<|wn<|WC.seq<|WC.block<|WC.loop (α:=Nat × Value) (fun (k,t)=>[(0,(ptr q 0)),(3,t)]) (fun (k,t) w'=>(k≤padZ all.length)∧Owl.Own [] w w' [Ent.bo q [(vU32 (hst all).a),(vU32 (hst all).b),(vU32 (hst all).c),(vU32 (hst all).d),(vU32 (hst all).e),(vU32 (hst all).f),(vU32 (hst all).g),(vU32 (hst all).h),v,(vN all.length)],Ent.ar v 1 (hrest all).length (List.map vU8 (hrest all)),.row t 5 1 ((0+(hrest all).length)+1+k) (List.map vU8 (hrest all++[128]++List.replicate k 0)),.row (.slice (some ⟨b3,0,none⟩) 1 1) 5 1 1 (List.map vU8 [128])]) (fun (k,t)=>padZ all.length-k) (0,v4) ⟨(by omega),(by have h:=(show Owl.Own [] w w4 [Ent.bo q [(vU32 (hst all).a),(vU32 (hst all).b),(vU32 (hst all).c),(vU32 (hst all).d),(vU32 (hst all).e),(vU32 (hst all).f),(vU32 (hst all).g),(vU32 (hst all).h),v,(vN all.length)],Ent.ar v 1 (hrest all).length (List.map vU8 (hrest all)),.row v4 5 1 ((0+(hrest all).length)+1) (List.map vU8 (([]++(hrest all))++[128])),.row (.slice (some ⟨b3,0,none⟩) 1 1) 5 1 1 (List.map vU8 [128])] from H4); simpa using h)⟩ ⟨rfl,rfl,trivial⟩ ?_)))))))))
 rintro ⟨k,t⟩ w5 ⟨hinv,H5⟩
 show WC _ _ _ _ _ [(0,(ptr q 0)),(3,t)] _
 refine WC.seq<|ws<|wm rfl<|wo (op_lenA Tryz.underlying114 rfl (H5.arrR (i:=2) rfl)<|wo (op_remN (b:=64) rfl rfl (by omega)<|wo (op_neqN (b:=56) rfl rfl<|wn (wC (decide ((((0+(hrest all).length)+1+k)%64)≠56)) (fun hb6=>?_) (fun hb6=>?_)))))
 ·
  have hc6:=dT hb6
  exact WC.skip<|WQ.next<|WC.block<|WC.region<|wm rfl<|wo (op_buildSlice (cs:=[_]) H5 Tryz.underlying114 Fa.I5 rfl rfl rfl rfl (by decide) (by decide) (fun b7 w7 H7=>(wo (op_appendM (f:=vU8) (l:=(hrest all++[128]++List.replicate k 0)) (l':=[0]) (i:=2) H7 Tryz.underlying114 Fa.I5 rfl rfl rfl rfl (Src.ofArr Tryz.underlying114 (H7.arrR (i:=4) rfl)) (one_mapM (fun _=>rfl)) (by omega) (by omega) (fun v8 w8 H8=>(wa rfl<|WL.nil<|WQ.inNormal<|WQ.round (k+1,v8) ⟨(by omega),(by have h:=(show Owl.Own [] w w8 [Ent.bo q [(vU32 (hst all).a),(vU32 (hst all).b),(vU32 (hst all).c),(vU32 (hst all).d),(vU32 (hst all).e),(vU32 (hst all).f),(vU32 (hst all).g),(vU32 (hst all).h),v,(vN all.length)],Ent.ar v 1 (hrest all).length (List.map vU8 (hrest all)),.row v8 5 1 (((0+(hrest all).length)+1+k)+1) (List.map vU8 ((hrest all++[128]++List.replicate k 0)++[0])),.row (.slice (some ⟨b3,0,none⟩) 1 1) 5 1 1 (List.map vU8 [128])] from (H8.take 4)); rw [padStep] at h; exact h)⟩ ⟨rfl,rfl,trivial⟩ (by show padZ all.length-(k+1)<padZ all.length-k; omega)))))))
 ·
  have hc6:=dF hb6
  have hk:k=padZ all.length:=(by omega)
  refine WC.exit<|WQ.thenExit<|WQ.thenExit<|WQ.inHere<|WQ.next<|ws<|wm rfl<|wo (op_nilCheck rfl<|wo (op_fieldAddr rfl Fa.F325_2<|wo (op_load rfl (H5.cellO (i:=0) rfl rfl) Tryz.underlying3 rfl<|wo (op_convNU64 (hs:=Tryz.underlying3) (hd:=Tryz.underlying154) rfl<|wo (op_mulU64 (a:=8) rfl rfl<|wa rfl<|wn<|WC.seq<|ws<|wa rfl<|wn<|WC.block<|WC.loop (α:=Nat × Value) (fun (j,t)=>[(0,(ptr q 0)),(3,t),(4,(vU64 ((8:UInt64) * (UInt64.ofNat all.length)))),(5,(vI ((56:Int)-((8 * j:Nat):Int))))]) (fun (j,t) w'=>(j≤8)∧Owl.Own [] w w' [Ent.bo q [(vU32 (hst all).a),(vU32 (hst all).b),(vU32 (hst all).c),(vU32 (hst all).d),(vU32 (hst all).e),(vU32 (hst all).f),(vU32 (hst all).g),(vU32 (hst all).h),v,(vN all.length)],Ent.ar v 1 (hrest all).length (List.map vU8 (hrest all)),.row t 5 1 ((hrest all).length+1+padZ all.length+j) (List.map vU8 (hrest all++([128]++List.replicate (padZ all.length) 0++lenTo all.length j))),.row (.slice (some ⟨b3,0,none⟩) 1 1) 5 1 1 (List.map vU8 [128])]) (fun (j,t)=>8-j) (0,t) ⟨(by omega),(by have h:=(show Owl.Own [] w w5 [Ent.bo q [(vU32 (hst all).a),(vU32 (hst all).b),(vU32 (hst all).c),(vU32 (hst all).d),(vU32 (hst all).e),(vU32 (hst all).f),(vU32 (hst all).g),(vU32 (hst all).h),v,(vN all.length)],Ent.ar v 1 (hrest all).length (List.map vU8 (hrest all)),.row t 5 1 ((0+(hrest all).length)+1+k) (List.map vU8 (hrest all++[128]++List.replicate k 0)),.row (.slice (some ⟨b3,0,none⟩) 1 1) 5 1 1 (List.map vU8 [128])] from H5); rw [hk] at h; simpa [lenTo,Nat.add_assoc] using h)⟩ ⟨rfl,rfl,rfl,rfl,trivial⟩ ?_)))))
  rintro ⟨j,t⟩ w9 ⟨hinv,H9⟩
  show WC _ _ _ _ _ [(0,(ptr q 0)),(3,t),(4,(vU64 ((8:UInt64) * (UInt64.ofNat all.length)))),(5,(vI ((56:Int)-((8 * j:Nat):Int))))] _
  refine WC.seq<|ws<|wm rfl<|wo (op_geqI (b:=(0:Int)) rfl rfl<|wn (wC (decide (((56:Int)-((8 * j:Nat):Int))≥(0:Int))) (fun hb10=>?_) (fun hb10=>?_)))
  ·
   have hc10:=dT hb10
   rw [show ((56:Int)-((8 * j:Nat):Int))=((56-8 * j:Nat):Int) from by omega]
   exact WC.skip<|WQ.next<|WC.seq<|WC.block<|WC.region<|wm rfl<|wm rfl<|wm rfl<|wo (op_shrU64 rfl rfl<|wo (op_convU64U8 (hs:=Tryz.underlying154) (hd:=Tryz.underlying5) rfl<|wo (op_buildSlice (cs:=[_]) H9 Tryz.underlying114 Fa.I5 rfl rfl rfl rfl (by decide) (by decide) (fun b11 w11 H11=>(wo (op_appendM (f:=vU8) (l:=(hrest all++([128]++List.replicate (padZ all.length) 0++lenTo all.length j))) (l':=[(UInt8.ofNat (shrU64 ((8:UInt64) * (UInt64.ofNat all.length)) (56-8 * j)).toNat)]) (i:=2) H11 Tryz.underlying114 Fa.I5 rfl rfl rfl rfl (Src.ofArr Tryz.underlying114 (H11.arrR (i:=4) rfl)) (one_mapM (fun _=>rfl)) (by omega) (by omega) (fun v12 w12 H12=>(wa rfl<|WL.nil<|WQ.inNormal<|WQ.next<|WC.region<|wm rfl<|wo (op_subI (a:=(((56-8 * j):Nat):Int)) (b:=((8:Nat):Int)) rfl rfl (by omega)<|wa rfl<|WL.nil<|WQ.round (j+1,v12) ⟨(by omega),(by have h:=(show Owl.Own [] w w12 [Ent.bo q [(vU32 (hst all).a),(vU32 (hst all).b),(vU32 (hst all).c),(vU32 (hst all).d),(vU32 (hst all).e),(vU32 (hst all).f),(vU32 (hst all).g),(vU32 (hst all).h),v,(vN all.length)],Ent.ar v 1 (hrest all).length (List.map vU8 (hrest all)),.row v12 5 1 (((hrest all).length+1+padZ all.length+j)+1) (List.map vU8 ((hrest all++([128]++List.replicate (padZ all.length) 0++lenTo all.length j))++[(UInt8.ofNat (shrU64 ((8:UInt64) * (UInt64.ofNat all.length)) (56-8 * j)).toNat)])),.row (.slice (some ⟨b3,0,none⟩) 1 1) 5 1 1 (List.map vU8 [128])] from (H12.take 4)); rw [lenStep] at h; exact h)⟩ ⟨rfl,rfl,rfl,(by show some (vI (((56-8 * j:Nat):Int)-8))=some (vI ((56:Int)-((8 * (j+1):Nat):Int))); congr 2; omega),trivial⟩ (by show 8-(j+1)<8-j; omega))))))))))
  ·
   have hc10:=dF hb10
   refine WC.exit<|WQ.thenExit<|WQ.thenExit<|WQ.inHere<|WQ.next<|ws<|wm rfl<|wo (op_nilCheck rfl<|wo (op_fieldAddr rfl Fa.F325_0<|wo (op_loadS (vs:=[_,_,_,_,_,_,_,_]) rfl (H9.cellsO (i:=0) rfl rfl) Tryz.underlying322 rfl Fa.I322 rfl<|wo (op_alloc H9 Fa.I322 (fun b13 w13 H13=>(wo (op_storeBW (i:=4) H13 rfl rfl rfl rfl rfl Fa.I322 (fun w14 H14=>(wn<|WC.seq<|WC.block<|WC.loop (α:=Nat × Value) (fun (j,t)=>[(3,t),(6,(ptr b13 0))]) (fun (j,t) w'=>(64 * j≤(hrest all++pads all.length).length)∧Owl.Own [] w w' [Ent.bo q [(vU32 (hst all).a),(vU32 (hst all).b),(vU32 (hst all).c),(vU32 (hst all).d),(vU32 (hst all).e),(vU32 (hst all).f),(vU32 (hst all).g),(vU32 (hst all).h),v,(vN all.length)],Ent.ar v 1 (hrest all).length (List.map vU8 (hrest all)),.row t 5 1 (brest (hrest all++pads all.length) j).length (List.map vU8 (brest (hrest all++pads all.length) j)),.row (.slice (some ⟨b3,0,none⟩) 1 1) 5 1 1 (List.map vU8 [128]),.blk b13 [(vU32 (bst (hst all) (hrest all++pads all.length) j).a),(vU32 (bst (hst all) (hrest all++pads all.length) j).b),(vU32 (bst (hst all) (hrest all++pads all.length) j).c),(vU32 (bst (hst all) (hrest all++pads all.length) j).d),(vU32 (bst (hst all) (hrest all++pads all.length) j).e),(vU32 (bst (hst all) (hrest all++pads all.length) j).f),(vU32 (bst (hst all) (hrest all++pads all.length) j).g),(vU32 (bst (hst all) (hrest all++pads all.length) j).h)] 322]) (fun (j,t)=>(hrest all++pads all.length).length-64 * j) (0,t) ⟨(by omega),(by have hj:j=8:=(by omega); have h:=(show Owl.Own [] w w14 [Ent.bo q [(vU32 (hst all).a),(vU32 (hst all).b),(vU32 (hst all).c),(vU32 (hst all).d),(vU32 (hst all).e),(vU32 (hst all).f),(vU32 (hst all).g),(vU32 (hst all).h),v,(vN all.length)],Ent.ar v 1 (hrest all).length (List.map vU8 (hrest all)),.row t 5 1 ((hrest all).length+1+padZ all.length+j) (List.map vU8 (hrest all++([128]++List.replicate (padZ all.length) 0++lenTo all.length j))),.row (.slice (some ⟨b3,0,none⟩) 1 1) 5 1 1 (List.map vU8 [128]),.blk b13 [(vU32 (hst all).a),(vU32 (hst all).b),(vU32 (hst all).c),(vU32 (hst all).d),(vU32 (hst all).e),(vU32 (hst all).f),(vU32 (hst all).g),(vU32 (hst all).h)] 322] from H14); rw [hj] at h; have e:(hrest all).length+1+padZ all.length+8=(brest (hrest all++pads all.length) 0).length:=(by simp [brest,pads,lenTo_length]; omega); rw [e] at h; exact h)⟩ ⟨rfl,rfl,trivial⟩ ?_)))))))))
   rintro ⟨j,t⟩ w15 ⟨hinv,H15⟩
   show WC _ _ _ _ _ [(3,t),(6,(ptr b13 0))] _
   have hb0:=brest_length (hrest all++pads all.length) j
   have hP:=padAll all
   refine WC.seq<|ws<|wm rfl<|wo (op_lenA Tryz.underlying114 rfl (H15.arrR (i:=2) rfl)<|wo (op_gtrN (b:=0) rfl rfl<|wn (wC (decide ((brest (hrest all++pads all.length) j).length>0)) (fun hb16=>?_) (fun hb16=>?_))))
   ·
    have hc16:=dT hb16
    refine WC.skip<|WQ.next<|WC.seq<|WC.block<|WC.draw 4 Fa.M H15 (oh (fun w1 H1=>op_loadS (vs:=[_,_,_,_,_,_,_,_]) rfl (H1.cells (i:=4) rfl rfl) Tryz.underlying322 rfl Fa.I322 rfl zr)<|mh rfl<|oh (fun w1 H1=>op_cutHi (b:=64) Tryz.underlying114 Fa.I5 rfl (H1.arrR (i:=2) rfl) rfl (by omega) zr)<|oh (fun w1 H1=>op_callF Fa.C228 rfl ((block_ok (bst (hst all) (hrest all++pads all.length) j) _ ((brest (hrest all++pads all.length) j).take 64) _ (by rw [List.length_take]; omega) (((H1.arrR (i:=2) rfl)).cutHiM (f:=vU8) (l:=(brest (hrest all++pads all.length) j)) (b:=64) (by omega))).mono (fun e w2 hq=>⟨_,hq.1,rfl,hq.2⟩)))  HW.nil) (by kernel_rfl) ?_
    intro β18 w18 H18
    refine wo (op_storeBW (i:=4) H18 rfl rfl rfl rfl rfl Fa.I322 (fun w19 H19=>(WL.nil<|WQ.inNormal<|WQ.next<|WC.region<|wm rfl<|wo (op_cutLo (a:=64) Tryz.underlying114 Fa.I5 rfl (H19.arrR (i:=2) rfl) rfl (by omega) ?_))))
    have H20:=H19.cutLoM (f:=vU8) (l:=(brest (hrest all++pads all.length) j)) (a:=64) (i:=2) rfl (by omega)
    exact wa rfl<|WL.nil<|WQ.round (j+1,(cutV t 64 (brest (hrest all++pads all.length) j).length 1)) ⟨(by omega),(by have h:=(show Owl.Own [] w w19 [Ent.bo q [(vU32 (hst all).a),(vU32 (hst all).b),(vU32 (hst all).c),(vU32 (hst all).d),(vU32 (hst all).e),(vU32 (hst all).f),(vU32 (hst all).g),(vU32 (hst all).h),v,(vN all.length)],Ent.ar v 1 (hrest all).length (List.map vU8 (hrest all)),.row (cutV t 64 (brest (hrest all++pads all.length) j).length 1) 5 1 ((brest (hrest all++pads all.length) j).length-64) (List.map vU8 ((brest (hrest all++pads all.length) j).drop 64)),.row (.slice (some ⟨b3,0,none⟩) 1 1) 5 1 1 (List.map vU8 [128]),.blk b13 [(vU32 (blockS (bst (hst all) (hrest all++pads all.length) j) ((brest (hrest all++pads all.length) j).take 64)).a),(vU32 (blockS (bst (hst all) (hrest all++pads all.length) j) ((brest (hrest all++pads all.length) j).take 64)).b),(vU32 (blockS (bst (hst all) (hrest all++pads all.length) j) ((brest (hrest all++pads all.length) j).take 64)).c),(vU32 (blockS (bst (hst all) (hrest all++pads all.length) j) ((brest (hrest all++pads all.length) j).take 64)).d),(vU32 (blockS (bst (hst all) (hrest all++pads all.length) j) ((brest (hrest all++pads all.length) j).take 64)).e),(vU32 (blockS (bst (hst all) (hrest all++pads all.length) j) ((brest (hrest all++pads all.length) j).take 64)).f),(vU32 (blockS (bst (hst all) (hrest all++pads all.length) j) ((brest (hrest all++pads all.length) j).take 64)).g),(vU32 (blockS (bst (hst all) (hrest all++pads all.length) j) ((brest (hrest all++pads all.length) j).take 64)).h)] 322] from H20); rw [←List.length_drop] at h; exact h)⟩ ⟨rfl,rfl,trivial⟩ (by show (hrest all++pads all.length).length-64 * (j+1)<(hrest all++pads all.length).length-64 * j; omega)
   ·
    have hc16:=dF hb16
    refine WC.exit<|WQ.thenExit<|WQ.thenExit<|WQ.inHere<|WQ.next<|ws<|wa rfl ?_
    have H21:=H15.nilRow 5 1
    refine wn<|WC.seq<|ws<|wo (op_loadS (vs:=[_,_,_,_,_,_,_,_]) rfl (H21.cells (i:=4) rfl rfl) Tryz.underlying322 rfl Fa.I322 rfl<|wm rfl<|wn<|WC.block<|WC.loop (α:=Nat × Value) (fun (k,t2)=>[(7,t2),(56,(.agg #[(vU32 (bst (hst all) (hrest all++pads all.length) j).a),(vU32 (bst (hst all) (hrest all++pads all.length) j).b),(vU32 (bst (hst all) (hrest all++pads all.length) j).c),(vU32 (bst (hst all) (hrest all++pads all.length) j).d),(vU32 (bst (hst all) (hrest all++pads all.length) j).e),(vU32 (bst (hst all) (hrest all++pads all.length) j).f),(vU32 (bst (hst all) (hrest all++pads all.length) j).g),(vU32 (bst (hst all) (hrest all++pads all.length) j).h)])),(57,(vN k))]) (fun (k,t2) w'=>(k≤8)∧Owl.Own [] w w' [Ent.bo q [(vU32 (hst all).a),(vU32 (hst all).b),(vU32 (hst all).c),(vU32 (hst all).d),(vU32 (hst all).e),(vU32 (hst all).f),(vU32 (hst all).g),(vU32 (hst all).h),v,(vN all.length)],Ent.ar v 1 (hrest all).length (List.map vU8 (hrest all)),.row t 5 1 (brest (hrest all++pads all.length) j).length (List.map vU8 (brest (hrest all++pads all.length) j)),.row (.slice (some ⟨b3,0,none⟩) 1 1) 5 1 1 (List.map vU8 [128]),.blk b13 [(vU32 (bst (hst all) (hrest all++pads all.length) j).a),(vU32 (bst (hst all) (hrest all++pads all.length) j).b),(vU32 (bst (hst all) (hrest all++pads all.length) j).c),(vU32 (bst (hst all) (hrest all++pads all.length) j).d),(vU32 (bst (hst all) (hrest all++pads all.length) j).e),(vU32 (bst (hst all) (hrest all++pads all.length) j).f),(vU32 (bst (hst all) (hrest all++pads all.length) j).g),(vU32 (bst (hst all) (hrest all++pads all.length) j).h)] 322,.row t2 5 1 (4 * k) (List.map vU8 (outTo (bst (hst all) (hrest all++pads all.length) j) k))]) (fun (k,t2)=>8-k) (0,(.slice none 0 0)) ⟨(by omega),H21⟩ ⟨rfl,rfl,rfl,trivial⟩ ?_)
    rintro ⟨k,t2⟩ w22 ⟨hinv,H22⟩
    show WC _ _ _ _ _ [(7,t2),(56,(.agg #[(vU32 (bst (hst all) (hrest all++pads all.length) j).a),(vU32 (bst (hst all) (hrest all++pads all.length) j).b),(vU32 (bst (hst all) (hrest all++pads all.length) j).c),(vU32 (bst (hst all) (hrest all++pads all.length) j).d),(vU32 (bst (hst all) (hrest all++pads all.length) j).e),(vU32 (bst (hst all) (hrest all++pads all.length) j).f),(vU32 (bst (hst all) (hrest all++pads all.length) j).g),(vU32 (bst (hst all) (hrest all++pads all.length) j).h)])),(57,(vN k))] _
    refine ws<|wo (op_lssN (b:=8) rfl rfl<|wn<|WC.seq (wC (decide (k<8)) (fun hb23=>?_) (fun hb23=>?_)))
    ·
     have hc23:=dT hb23
     exact WC.skip<|WQ.next<|WC.seq<|WC.block<|ws<|wo (op_indexA1 (cs:=_) Tryz.underlying322 Fa.I22 Tryz.underlying22 rfl rfl rfl (by omega) (get_map (l:=(bst (hst all) (hrest all++pads all.length) j).vals) vU32 0 (by rw [vals_length]; omega))<|wa rfl<|wn<|WC.region<|wm rfl<|wm rfl<|wo (op_shrU32 (s:=24) rfl rfl<|wo (op_convU32U8 (hs:=Tryz.underlying22) (hd:=Tryz.underlying5) rfl<|wm rfl<|wo (op_shrU32 (s:=16) rfl rfl<|wo (op_convU32U8 (hs:=Tryz.underlying22) (hd:=Tryz.underlying5) rfl<|wm rfl<|wo (op_shrU32 (s:=8) rfl rfl<|wo (op_convU32U8 (hs:=Tryz.underlying22) (hd:=Tryz.underlying5) rfl<|wm rfl<|wo (op_convU32U8 (hs:=Tryz.underlying22) (hd:=Tryz.underlying5) rfl<|wo (op_buildSlice (cs:=[_,_,_,_]) H22 Tryz.underlying114 Fa.I5 rfl rfl rfl rfl (by decide) (by decide) (fun b24 w24 H24=>(wo (op_appendM (f:=vU8) (l:=(outTo (bst (hst all) (hrest all++pads all.length) j) k)) (l':=[(UInt8.ofNat (shrU32 ((bst (hst all) (hrest all++pads all.length) j).vals.getD k 0) 24).toNat),(UInt8.ofNat (shrU32 ((bst (hst all) (hrest all++pads all.length) j).vals.getD k 0) 16).toNat),(UInt8.ofNat (shrU32 ((bst (hst all) (hrest all++pads all.length) j).vals.getD k 0) 8).toNat),(UInt8.ofNat ((bst (hst all) (hrest all++pads all.length) j).vals.getD k 0).toNat)]) (i:=5) H24 Tryz.underlying114 Fa.I5 rfl rfl rfl rfl (Src.ofArr Tryz.underlying114 (H24.arrR (i:=6) rfl)) (one_mapM (fun _=>rfl)) (by omega) (by omega) (fun v25 w25 H25=>(wa rfl<|WL.nil<|WQ.inNormal<|WQ.next<|WC.region<|wo (op_addN (b:=1) rfl rfl (by omega)<|wm rfl<|WL.nil<|WQ.round (k+1,v25) ⟨(by omega),(H25.take 6)⟩ ⟨rfl,rfl,rfl,trivial⟩ (by show 8-(k+1)<8-k; omega))))))))))))))))
    ·
     have hc23:=dF hb23
     exact WC.exit<|WQ.thenExit<|WQ.thenExit<|WQ.inHere<|WQ.next<|ws<|wm rfl<|wo (op_bytesStr (l:=(outTo (bst (hst all) (hrest all++pads all.length) j) k)) Tryz.underlying114 Tryz.underlying5 Tryz.underlying9 rfl (H22.arrR (i:=5) rfl) rfl<|wa rfl<|wn<|WC.ret<|WQ.out (.tmp rfl .nil) (⟨(by have hk:k=8:=(by omega); subst hk; rw [sumEnd all j (by omega) (by rw [←List.length_append]; omega)]; rfl),H22.fr⟩))
theorem ssum_ok (s:List UInt8) (w:World) (hs:s.length<2^40) :
  Calls Tryz.prog 227 #[(str s)] w (fun e w'=>e=.returned (str (sha s))∧Fr [] w w'):=by
 refine enter (args:=[(str s)]) Tryz.func227 rfl rfl ?_
 have H0:Owl.Own [] w w []:=Own.start w []
 refine ws<|wa rfl<|wn<|ws<|wo (op_callF Fa.C191 rfl ((new_ok _).mono (fun e w1 hq=>?_)))
 obtain ⟨q1,rfl,hq1⟩:=hq
 refine ⟨_,rfl,?_⟩
 have H1:=H0.splice [] [] [.blk q1 [(vU32 (hst ([]:List UInt8)).a),(vU32 (hst ([]:List UInt8)).b),(vU32 (hst ([]:List UInt8)).c),(vU32 (hst ([]:List UInt8)).d),(vU32 (hst ([]:List UInt8)).e),(vU32 (hst ([]:List UInt8)).f),(vU32 (hst ([]:List UInt8)).g),(vU32 (hst ([]:List UInt8)).h),(.slice none 0 0),(vN ([]:List UInt8).length)] 325,.row (.slice none 0 0) 5 1 (hrest ([]:List UInt8)).length (List.map vU8 (hrest ([]:List UInt8)))] rfl rfl hq1 (Fits.solid True.intro (Fits.solid True.intro Fits.nil))
 refine wa rfl<|wn<|ws<|wm rfl<|wm rfl<|wo (op_buildSlice (cs:=[_]) H1 Tryz.underlying59 Fa.I9 rfl rfl rfl rfl (by decide) (by decide) (fun b2 w2 H2=>(wo (op_callF Fa.C193 rfl ((write_ok q1 (.slice none 0 0) (.slice (some ⟨b2,0,none⟩) 1 1) ([]:List UInt8) ([s]) _ _ (H2.part [0,1] rfl rfl) (H2.stayR (I:=[0,1]) (k:=2) rfl rfl rfl) (by simpa using hs) (by simp)).mono (fun e w3 hq=>?_))))))
 obtain ⟨v3,rfl,hq3⟩:=hq
 refine ⟨_,rfl,?_⟩
 have H3:=H2.splice [0,1] [.blk q1 [(vU32 (hst (([]:List UInt8)++[s].flatten)).a),(vU32 (hst (([]:List UInt8)++[s].flatten)).b),(vU32 (hst (([]:List UInt8)++[s].flatten)).c),(vU32 (hst (([]:List UInt8)++[s].flatten)).d),(vU32 (hst (([]:List UInt8)++[s].flatten)).e),(vU32 (hst (([]:List UInt8)++[s].flatten)).f),(vU32 (hst (([]:List UInt8)++[s].flatten)).g),(vU32 (hst (([]:List UInt8)++[s].flatten)).h),v3,(vN (([]:List UInt8)++[s].flatten).length)] 325,.row v3 5 1 (hrest (([]:List UInt8)++[s].flatten)).length (List.map vU8 (hrest (([]:List UInt8)++[s].flatten)))] [] rfl rfl hq3 (Fits.solid True.intro (Fits.solid True.intro Fits.nil))
 refine wn<|ws<|wm rfl<|wo (op_callF Fa.C195 rfl ((hsum_ok q1 v3 (([]:List UInt8)++[s].flatten) _ (H3.cellsAt (i:=0) rfl) (H3.arrR (i:=1) rfl) (by simpa using hs)).mono (fun e w4 hq=>?_)))
 obtain ⟨rfl,hf4⟩:=hq
 refine ⟨_,rfl,?_⟩
 have H4:=H3.fr' hf4
 exact wa rfl<|wn<|WC.ret<|WQ.out (.tmp rfl .nil) (⟨by simp [tup],H4.fr⟩)
theorem mblock_ok (key:List UInt8) (w:World) (hk:key.length<2^40) :
  Calls Tryz.prog 192 #[(str key)] w (fun e w'=>e=.returned (str (blockM key))∧Fr [] w w'):=by
 refine enter (args:=[(str key)]) Tryz.func192 rfl rfl ?_
 have H0:Owl.Own [] w w []:=Own.start w []
 refine ws<|wa rfl<|wn<|WC.seq<|ws<|wm rfl<|wo (op_lenStr Tryz.underlying9 rfl<|wo (op_gtrN (b:=64) rfl rfl<|wn (wC (decide (key.length>64)) (fun hb1=>?_) (fun hb1=>?_))))
 ·
  have hc1:=dT hb1
  have hl:=sha_length key
  refine WC.region<|wm rfl<|wo (op_callF Fa.C227 rfl ((ssum_ok key _ hk).mono (fun e w2 hq=>?_)))
  obtain ⟨rfl,hf2⟩:=hq
  refine ⟨_,rfl,?_⟩
  have H2:=H0.fr' hf2
  refine wa rfl<|wn<|ws<|wm rfl<|wm rfl<|wo (op_lenStr Tryz.underlying9 rfl<|wo (op_subN (a:=64) rfl rfl (by omega) (by omega)<|wo (op_makeSliceM (f:=vU8) (c:=0) H2 Tryz.underlying114 Fa.I5 rfl rfl (by omega) (by omega) (fun b3 w3 H3=>(wo (op_bytesStr (l:=(List.replicate (64-(sha key).length) 0)) Tryz.underlying114 Tryz.underlying5 Tryz.underlying9 rfl (H3.arrR (i:=0) rfl) rfl<|wo (op_addStr rfl rfl (by first | omega | (rw [List.length_append]; omega) | (simp; omega)) ?_)))))))
  exact wa rfl<|wn<|WC.ret<|WQ.out (.tmp rfl .nil) (⟨by rw [blockM,keyB,if_pos hc1]; rfl,H3.fr⟩)
 ·
  have hc1:=dF hb1
  refine WC.skip<|WQ.next<|ws<|wm rfl<|wm rfl<|wo (op_lenStr Tryz.underlying9 rfl<|wo (op_subN (a:=64) rfl rfl (by omega) (by omega)<|wo (op_makeSliceM (f:=vU8) (c:=0) H0 Tryz.underlying114 Fa.I5 rfl rfl (by omega) (by omega) (fun b4 w4 H4=>(wo (op_bytesStr (l:=(List.replicate (64-key.length) 0)) Tryz.underlying114 Tryz.underlying5 Tryz.underlying9 rfl (H4.arrR (i:=0) rfl) rfl<|wo (op_addStr rfl rfl (by first | omega | (rw [List.length_append]; omega) | (simp; omega)) ?_)))))))
  exact wa rfl<|wn<|WC.ret<|WQ.out (.tmp rfl .nil) (⟨by rw [blockM,keyB,if_neg hc1]; rfl,H4.fr⟩)
theorem padded_ok (s:List UInt8) (c:UInt8) (w:World) (hs:s.length<2^40) :
  Calls Tryz.prog 194 #[(str s),(vU8 c)] w (fun e w'=>e=.returned (str (xorL s c))∧Fr [] w w'):=by
 refine enter (args:=[(str s),(vU8 c)]) Tryz.func194 rfl rfl ?_
 have H0:Owl.Own [] w w []:=Own.start w []
 refine ws<|wa rfl<|wn<|ws<|wm rfl<|wo (op_strBytes H0 Tryz.underlying9 Tryz.underlying5 Tryz.underlying114 rfl (by omega) (fun v1 w1 H1=>(wa rfl<|wn<|WC.seq<|ws<|wm rfl<|wo (op_lenA Tryz.underlying114 rfl (H1.arrR (i:=0) rfl)<|wm rfl<|wn<|WC.block<|WC.loop (α:=Nat) (fun k=>[(1,(vU8 c)),(5,v1),(10,(vN s.length)),(11,(vN k))]) (fun k w'=>(k≤s.length)∧Owl.Own [] w w' [.row v1 5 1 s.length (List.map vU8 (xorTo s c k))]) (fun k=>s.length-k) 0 ⟨(by omega),H1⟩ ⟨rfl,rfl,rfl,rfl,trivial⟩ ?_))))
 rintro k w2 ⟨hinv,H2⟩
 show WC _ _ _ _ _ [(1,(vU8 c)),(5,v1),(10,(vN s.length)),(11,(vN k))] _
 refine ws<|wo (op_lssN rfl rfl<|wn<|WC.seq (wC (decide (k<s.length)) (fun hb3=>?_) (fun hb3=>?_)))
 ·
  have hc3:=dT hb3
  exact WC.skip<|WQ.next<|WC.seq<|WC.block<|ws<|wm rfl<|wa rfl<|wn<|WC.region<|wm rfl<|wm rfl<|wo (op_indexAddr1 Tryz.underlying114 Fa.I5 rfl (H2.arrR (i:=0) rfl) rfl (by omega)<|wo (op_load rfl ((H2.arrR (i:=0) rfl).at (get_map vU8 0 (Arr.ltM (H2.arrR (i:=0) rfl) (by omega)))) Tryz.underlying5 rfl<|wm rfl<|wo (op_xorU8 rfl rfl<|wo (op_indexAddr1 Tryz.underlying114 Fa.I5 rfl (H2.arrR (i:=0) rfl) rfl (by omega)<|wo (op_storeRM (i:=0) (f:=vU8) (l:=(xorTo s c k)) (c:=(((xorTo s c k).getD k 0) ^^^ c)) H2 rfl rfl rfl (by omega) rfl Fa.I5 (fun w4 H4=>(WL.nil<|WQ.inNormal<|WQ.next<|WC.region<|wo (op_addN (b:=1) rfl rfl (by omega)<|wm rfl<|WL.nil<|WQ.round (k+1) ⟨(by omega),(Own.rowEq (i:=0) (f:=vU8) H4 rfl (xorTo_step s c (by omega)))⟩ ⟨rfl,rfl,rfl,rfl,trivial⟩ (by omega)))))))))
 ·
  have hc3:=dF hb3
  exact WC.exit<|WQ.thenExit<|WQ.thenExit<|WQ.inHere<|WQ.next<|ws<|wm rfl<|wo (op_bytesStr (l:=(xorTo s c k)) Tryz.underlying114 Tryz.underlying5 Tryz.underlying9 rfl (H2.arrR (i:=0) rfl) rfl<|wa rfl<|wn<|WC.ret<|WQ.out (.tmp rfl .nil) (⟨by have hk:k=s.length:=(by omega); subst hk; rw [xorTo_end]; rfl,H2.fr⟩))
theorem macnew_ok (key:List UInt8) (w:World) (hk:key.length<2^40) :
  Calls Tryz.prog 153 #[(str key)] w (fun e w'=> ∃m q v,e=.returned (ptr m 0)∧Owl.Own [] w w' [.blk m [(ptr q 0),(str (blockM key))] 293,.blk q [(vU32 (hst (xorL (blockM key) 54)).a),(vU32 (hst (xorL (blockM key) 54)).b),(vU32 (hst (xorL (blockM key) 54)).c),(vU32 (hst (xorL (blockM key) 54)).d),(vU32 (hst (xorL (blockM key) 54)).e),(vU32 (hst (xorL (blockM key) 54)).f),(vU32 (hst (xorL (blockM key) 54)).g),(vU32 (hst (xorL (blockM key) 54)).h),v,(vN (xorL (blockM key) 54).length)] 325,.row v 5 1 (hrest (xorL (blockM key) 54)).length ((hrest (xorL (blockM key) 54)).map vU8)]):=by
 refine enter (args:=[(str key)]) Tryz.func153 rfl rfl ?_
 have H0:Owl.Own [] w w []:=Own.start w []
 refine ws<|wa rfl<|wn<|ws<|wo (op_callF Fa.C191 rfl ((new_ok _).mono (fun e w1 hq=>?_)))
 obtain ⟨q1,rfl,hq1⟩:=hq
 refine ⟨_,rfl,?_⟩
 have H1:=H0.splice [] [] [.blk q1 [(vU32 (hst ([]:List UInt8)).a),(vU32 (hst ([]:List UInt8)).b),(vU32 (hst ([]:List UInt8)).c),(vU32 (hst ([]:List UInt8)).d),(vU32 (hst ([]:List UInt8)).e),(vU32 (hst ([]:List UInt8)).f),(vU32 (hst ([]:List UInt8)).g),(vU32 (hst ([]:List UInt8)).h),(.slice none 0 0),(vN ([]:List UInt8).length)] 325,.row (.slice none 0 0) 5 1 (hrest ([]:List UInt8)).length (List.map vU8 (hrest ([]:List UInt8)))] rfl rfl hq1 (Fits.solid True.intro (Fits.solid True.intro Fits.nil))
 refine wm rfl<|wo (op_callF Fa.C192 rfl ((mblock_ok key _ hk).mono (fun e w2 hq=>?_)))
 obtain ⟨rfl,hf2⟩:=hq
 refine ⟨_,rfl,?_⟩
 have H2:=H1.fr' hf2
 refine wo (op_build (cs:=[_,_]) Fa.I293 Fa.PL293 rfl rfl<|wo (op_box H2 rfl rfl (fun b3 w3 H3=>(wa rfl<|wn<|WC.seq<|WC.draw 10 Fa.M H3 (mh rfl<|oh (fun w1 H1=>op_nilCheck rfl zr)<|oh (fun w1 H1=>op_fieldAddr rfl Fa.F293_0 zr)<|oh (fun w1 H1=>op_load rfl (H1.cell (i:=2) rfl rfl) Tryz.underlying290 rfl zr)<|mh rfl<|oh (fun w1 H1=>op_nilCheck rfl zr)<|oh (fun w1 H1=>op_fieldAddr rfl Fa.F293_1 zr)<|oh (fun w1 H1=>op_load rfl (H1.cell (i:=2) rfl rfl) Tryz.underlying9 rfl zr)<|oh (fun w1 H1=>op_callF Fa.C194 rfl ((padded_ok (blockM key) 54 _ (by rw [blockM_length]; decide)).mono (fun e w2 hq=>⟨_,hq.1,rfl,hq.2⟩)))<|HW.flt (mk:=fun bq=>.slice (some ⟨bq.1,0,none⟩) 1 1) (ent:=fun bq=>.row (.slice (some ⟨bq.1,0,none⟩) 1 1) _ _ _ _) rfl (fun w1 _=>op_buildSlice (cs:=[_]) (Own.start w1 []) Tryz.underlying59 Fa.I9 rfl rfl rfl rfl (by decide) (by decide) (fun bq w2 H2=>⟨(bq,undef),rfl,H2,True.intro⟩))  HW.nil) (by kernel_rfl) ?_))))
 intro β5 w5 H5
 refine wo (op_callF Fa.C193 rfl ((write_ok q1 (.slice none 0 0) (.slice (some ⟨(β5 9).1,0,none⟩) 1 1) ([]:List UInt8) ([(xorL (blockM key) 54)]) _ _ (H5.part [0,1] rfl rfl) (H5.stayR (I:=[0,1]) (k:=3) rfl rfl rfl) (by simp [xorL_length,blockM_length]) (by simp)).mono (fun e w6 hq=>?_)))
 obtain ⟨v6,rfl,hq6⟩:=hq
 refine ⟨_,rfl,?_⟩
 have H6:=H5.splice [0,1] [.blk q1 [(vU32 (hst (([]:List UInt8)++[(xorL (blockM key) 54)].flatten)).a),(vU32 (hst (([]:List UInt8)++[(xorL (blockM key) 54)].flatten)).b),(vU32 (hst (([]:List UInt8)++[(xorL (blockM key) 54)].flatten)).c),(vU32 (hst (([]:List UInt8)++[(xorL (blockM key) 54)].flatten)).d),(vU32 (hst (([]:List UInt8)++[(xorL (blockM key) 54)].flatten)).e),(vU32 (hst (([]:List UInt8)++[(xorL (blockM key) 54)].flatten)).f),(vU32 (hst (([]:List UInt8)++[(xorL (blockM key) 54)].flatten)).g),(vU32 (hst (([]:List UInt8)++[(xorL (blockM key) 54)].flatten)).h),v6,(vN (([]:List UInt8)++[(xorL (blockM key) 54)].flatten).length)] 325,.row v6 5 1 (hrest (([]:List UInt8)++[(xorL (blockM key) 54)].flatten)).length (List.map vU8 (hrest (([]:List UInt8)++[(xorL (blockM key) 54)].flatten)))] [] rfl rfl hq6 (Fits.solid True.intro (Fits.solid True.intro Fits.nil))
 exact wn<|ws<|wm rfl<|wa rfl<|wn<|WC.ret<|WQ.out (.tmp rfl .nil) (⟨_,_,_,rfl,(by have h:Owl.Own [] w w6 [.blk b3 [(ptr q1 0),(str (blockM key))] 293,.blk q1 [(vU32 (hst (([]:List UInt8)++[(xorL (blockM key) 54)].flatten)).a),(vU32 (hst (([]:List UInt8)++[(xorL (blockM key) 54)].flatten)).b),(vU32 (hst (([]:List UInt8)++[(xorL (blockM key) 54)].flatten)).c),(vU32 (hst (([]:List UInt8)++[(xorL (blockM key) 54)].flatten)).d),(vU32 (hst (([]:List UInt8)++[(xorL (blockM key) 54)].flatten)).e),(vU32 (hst (([]:List UInt8)++[(xorL (blockM key) 54)].flatten)).f),(vU32 (hst (([]:List UInt8)++[(xorL (blockM key) 54)].flatten)).g),(vU32 (hst (([]:List UInt8)++[(xorL (blockM key) 54)].flatten)).h),v6,(vN (([]:List UInt8)++[(xorL (blockM key) 54)].flatten).length)] 325,.row v6 5 1 (hrest (([]:List UInt8)++[(xorL (blockM key) 54)].flatten)).length (List.map vU8 (hrest (([]:List UInt8)++[(xorL (blockM key) 54)].flatten)))]:=H6.sel [2,0,1] rfl rfl; rw [show ([]:List UInt8)++[(xorL (blockM key) 54)].flatten=(xorL (blockM key) 54) from by simp] at h; exact h)⟩)
theorem macw_ok (m q:Nat) (v lv:Value) (B A:List UInt8) (ls:List (List UInt8)) (T:List Nat) (w:World) (H:Owl.Own T w w [.blk m [(ptr q 0),(str B)] 293,.blk q [(vU32 (hst A).a),(vU32 (hst A).b),(vU32 (hst A).c),(vU32 (hst A).d),(vU32 (hst A).e),(vU32 (hst A).f),(vU32 (hst A).g),(vU32 (hst A).h),v,(vN A.length)] 325,.row v 5 1 (hrest A).length ((hrest A).map vU8)]) {nl:Nat} (hA: ∀w1,Fr T w w1→Arr w1 lv 1 nl (ls.map str)) (hb:(A++ls.flatten).length<2^40) (hn:ls.length<2^40) :
  Calls Tryz.prog 154 #[(ptr m 0),lv] w (fun e w'=> ∃v,e=.returned (vN 0)∧Owl.Own T w w' [.blk m [(ptr q 0),(str B)] 293,.blk q [(vU32 (hst (A++ls.flatten)).a),(vU32 (hst (A++ls.flatten)).b),(vU32 (hst (A++ls.flatten)).c),(vU32 (hst (A++ls.flatten)).d),(vU32 (hst (A++ls.flatten)).e),(vU32 (hst (A++ls.flatten)).f),(vU32 (hst (A++ls.flatten)).g),(vU32 (hst (A++ls.flatten)).h),v,(vN (A++ls.flatten).length)] 325,.row v 5 1 (hrest (A++ls.flatten)).length ((hrest (A++ls.flatten)).map vU8)]):=by
 refine enter (args:=[(ptr m 0),lv]) Tryz.func154 rfl rfl<|ws<|wa rfl<|wn<|WC.seq<|ws<|wm rfl<|wo (op_eqlPN Fa.PT245 rfl rfl<|wn<|WC.no rfl rfl<|WC.skip<|WQ.next<|ws<|wm rfl<|wo (op_nilCheck rfl<|wo (op_fieldAddr rfl Fa.F293_0<|wo (op_load rfl (H.cell (i:=0) rfl rfl) Tryz.underlying290 rfl<|wm rfl<|wo (op_callF Fa.C193 rfl ((write_ok q v lv A ls _ _ (H.part [1,2] rfl rfl) (fun w1 hf=>(hA) w1 (H.frPart (I:=[1,2]) rfl hf)) hb hn).mono (fun e w1 hq=>?_)))))))
 obtain ⟨v1,rfl,hq1⟩:=hq
 refine ⟨_,rfl,?_⟩
 have H1:=H.splice [1,2] [.blk q [(vU32 (hst (A++ls.flatten)).a),(vU32 (hst (A++ls.flatten)).b),(vU32 (hst (A++ls.flatten)).c),(vU32 (hst (A++ls.flatten)).d),(vU32 (hst (A++ls.flatten)).e),(vU32 (hst (A++ls.flatten)).f),(vU32 (hst (A++ls.flatten)).g),(vU32 (hst (A++ls.flatten)).h),v1,(vN (A++ls.flatten).length)] 325,.row v1 5 1 (hrest (A++ls.flatten)).length (List.map vU8 (hrest (A++ls.flatten)))] [] rfl rfl hq1 (Fits.solid True.intro (Fits.solid True.intro Fits.nil))
 exact wa rfl<|wn<|WC.ret<|WQ.out (.tmp rfl .nil) (⟨_,rfl,H1⟩)
theorem macs_ok (m q:Nat) (v:Value) (B A:List UInt8) (w:World) (hM:cellsAt w m [(ptr q 0),(str B)]) (hQ:cellsAt w q [(vU32 (hst A).a),(vU32 (hst A).b),(vU32 (hst A).c),(vU32 (hst A).d),(vU32 (hst A).e),(vU32 (hst A).f),(vU32 (hst A).g),(vU32 (hst A).h),v,(vN A.length)]) (hV:Arr w v 1 (hrest A).length (List.map vU8 (hrest A))) (hb:A.length<2^40) (hB:B.length<2^30) :
  Calls Tryz.prog 155 #[(ptr m 0)] w (fun e w'=>e=.returned (str (sha (xorL B 92++sha A)))∧Fr [] w w'):=by
 refine enter (args:=[(ptr m 0)]) Tryz.func155 rfl rfl ?_
 have H0:Owl.Own [] w w [Ent.bo m [(ptr q 0),(str B)],Ent.bo q [(vU32 (hst A).a),(vU32 (hst A).b),(vU32 (hst A).c),(vU32 (hst A).d),(vU32 (hst A).e),(vU32 (hst A).f),(vU32 (hst A).g),(vU32 (hst A).h),v,(vN A.length)],Ent.ar v 1 (hrest A).length (List.map vU8 (hrest A))]:=((((Own.start w []).oldB hM).oldB hQ).oldA hV)
 refine ws<|wa rfl<|wn<|WC.seq<|ws<|wm rfl<|wo (op_eqlPN Fa.PT245 rfl rfl<|wn<|WC.no rfl rfl<|WC.skip<|WQ.next<|ws<|wo (op_callF Fa.C191 rfl ((new_ok _).mono (fun e w1 hq=>?_))))
 obtain ⟨q1,rfl,hq1⟩:=hq
 refine ⟨_,rfl,?_⟩
 have H1:=H0.splice [] [] [.blk q1 [(vU32 (hst ([]:List UInt8)).a),(vU32 (hst ([]:List UInt8)).b),(vU32 (hst ([]:List UInt8)).c),(vU32 (hst ([]:List UInt8)).d),(vU32 (hst ([]:List UInt8)).e),(vU32 (hst ([]:List UInt8)).f),(vU32 (hst ([]:List UInt8)).g),(vU32 (hst ([]:List UInt8)).h),(.slice none 0 0),(vN ([]:List UInt8).length)] 325,.row (.slice none 0 0) 5 1 (hrest ([]:List UInt8)).length (List.map vU8 (hrest ([]:List UInt8)))] rfl rfl hq1 (Fits.solid True.intro (Fits.solid True.intro Fits.nil))
 refine wa rfl<|wn<|WC.seq<|WC.draw 12 Fa.M H1 (mh rfl<|mh rfl<|oh (fun w1 H1=>op_nilCheck rfl zr)<|oh (fun w1 H1=>op_fieldAddr rfl Fa.F293_1 zr)<|oh (fun w1 H1=>op_load rfl (H1.cellO (i:=0) rfl rfl) Tryz.underlying9 rfl zr)<|oh (fun w1 H1=>op_callF Fa.C194 rfl ((padded_ok B 92 _ (by omega)).mono (fun e w2 hq=>⟨_,hq.1,rfl,hq.2⟩)))<|mh rfl<|oh (fun w1 H1=>op_nilCheck rfl zr)<|oh (fun w1 H1=>op_fieldAddr rfl Fa.F293_0 zr)<|oh (fun w1 H1=>op_load rfl (H1.cellO (i:=0) rfl rfl) Tryz.underlying290 rfl zr)<|oh (fun w1 H1=>op_callF Fa.C195 rfl ((hsum_ok q v A _ (H1.cellsAtO (i:=1) rfl) (H1.arrO (i:=2) rfl) (by first | exact hb | (simp [xorL_length,sha_length]; omega))).mono (fun e w2 hq=>⟨_,hq.1,rfl,hq.2⟩)))<|HW.flt (mk:=fun bq=>.slice (some ⟨bq.1,0,none⟩) 2 2) (ent:=fun bq=>.row (.slice (some ⟨bq.1,0,none⟩) 2 2) _ _ _ _) rfl (fun w1 _=>op_buildSlice (cs:=[_,_]) (Own.start w1 []) Tryz.underlying59 Fa.I9 rfl rfl rfl rfl (by decide) (by decide) (fun bq w2 H2=>⟨(bq,undef),rfl,H2,True.intro⟩))  HW.nil) (by kernel_rfl) ?_
 intro β4 w4 H4
 refine wo (op_callF Fa.C193 rfl ((write_ok q1 (.slice none 0 0) (.slice (some ⟨(β4 11).1,0,none⟩) 2 2) ([]:List UInt8) ([(xorL B 92),(sha A)]) _ _ (H4.part [3,4] rfl rfl) (H4.stayR (I:=[3,4]) (k:=5) rfl rfl rfl) (by simp [xorL_length,sha_length]; omega) (by simp)).mono (fun e w5 hq=>?_)))
 obtain ⟨v5,rfl,hq5⟩:=hq
 refine ⟨_,rfl,?_⟩
 have H5:=H4.splice [3,4] [.blk q1 [(vU32 (hst (([]:List UInt8)++[(xorL B 92),(sha A)].flatten)).a),(vU32 (hst (([]:List UInt8)++[(xorL B 92),(sha A)].flatten)).b),(vU32 (hst (([]:List UInt8)++[(xorL B 92),(sha A)].flatten)).c),(vU32 (hst (([]:List UInt8)++[(xorL B 92),(sha A)].flatten)).d),(vU32 (hst (([]:List UInt8)++[(xorL B 92),(sha A)].flatten)).e),(vU32 (hst (([]:List UInt8)++[(xorL B 92),(sha A)].flatten)).f),(vU32 (hst (([]:List UInt8)++[(xorL B 92),(sha A)].flatten)).g),(vU32 (hst (([]:List UInt8)++[(xorL B 92),(sha A)].flatten)).h),v5,(vN (([]:List UInt8)++[(xorL B 92),(sha A)].flatten).length)] 325,.row v5 5 1 (hrest (([]:List UInt8)++[(xorL B 92),(sha A)].flatten)).length (List.map vU8 (hrest (([]:List UInt8)++[(xorL B 92),(sha A)].flatten)))] [] rfl rfl hq5 (Fits.solid True.intro (Fits.solid True.intro Fits.nil))
 refine wn<|ws<|wm rfl<|wo (op_callF Fa.C195 rfl ((hsum_ok q1 v5 (([]:List UInt8)++[(xorL B 92),(sha A)].flatten) _ (H5.cellsAt (i:=3) rfl) (H5.arrR (i:=4) rfl) (by first | exact hb | (simp [xorL_length,sha_length]; omega))).mono (fun e w6 hq=>?_)))
 obtain ⟨rfl,hf6⟩:=hq
 refine ⟨_,rfl,?_⟩
 have H6:=H5.fr' hf6
 exact wa rfl<|wn<|WC.ret<|WQ.out (.tmp rfl .nil) (⟨by simp [tup],H6.fr⟩)
theorem msum_ok (key text:List UInt8) (w:World) (hk:key.length<2^40) (ht:text.length<2^39) :
  Calls Tryz.prog 112 #[(str key),(str text)] w (fun e w'=>e=.returned (str (mac key text))∧Fr [] w w'):=by
 refine enter (args:=[(str key),(str text)]) Tryz.func112 rfl rfl ?_
 have H0:Owl.Own [] w w []:=Own.start w []
 refine ws<|wa rfl<|wn<|ws<|wm rfl<|wo (op_callF Fa.C153 rfl ((macnew_ok key _ hk).mono (fun e w1 hq=>?_)))
 obtain ⟨m1,q1,v1,rfl,hq1⟩:=hq
 refine ⟨_,rfl,?_⟩
 have H1:=H0.splice [] [] [.blk m1 [(ptr q1 0),(str (blockM key))] 293,.blk q1 [(vU32 (hst (xorL (blockM key) 54)).a),(vU32 (hst (xorL (blockM key) 54)).b),(vU32 (hst (xorL (blockM key) 54)).c),(vU32 (hst (xorL (blockM key) 54)).d),(vU32 (hst (xorL (blockM key) 54)).e),(vU32 (hst (xorL (blockM key) 54)).f),(vU32 (hst (xorL (blockM key) 54)).g),(vU32 (hst (xorL (blockM key) 54)).h),v1,(vN (xorL (blockM key) 54).length)] 325,.row v1 5 1 (hrest (xorL (blockM key) 54)).length (List.map vU8 (hrest (xorL (blockM key) 54)))] rfl rfl hq1 (Fits.solid True.intro (Fits.solid True.intro (Fits.solid True.intro Fits.nil)))
 refine wa rfl<|wn<|ws<|wm rfl<|wm rfl<|wo (op_buildSlice (cs:=[_]) H1 Tryz.underlying59 Fa.I9 rfl rfl rfl rfl (by decide) (by decide) (fun b2 w2 H2=>(wo (op_callF Fa.C154 rfl ((macw_ok m1 q1 v1 (.slice (some ⟨b2,0,none⟩) 1 1) (blockM key) (xorL (blockM key) 54) ([text]) _ _ (H2.part [0,1,2] rfl rfl) (H2.stayR (I:=[0,1,2]) (k:=3) rfl rfl rfl) (by simp [xorL_length,blockM_length]; omega) (by simp)).mono (fun e w3 hq=>?_))))))
 obtain ⟨v3,rfl,hq3⟩:=hq
 refine ⟨_,rfl,?_⟩
 have H3:=H2.splice [0,1,2] [.blk m1 [(ptr q1 0),(str (blockM key))] 293,.blk q1 [(vU32 (hst ((xorL (blockM key) 54)++[text].flatten)).a),(vU32 (hst ((xorL (blockM key) 54)++[text].flatten)).b),(vU32 (hst ((xorL (blockM key) 54)++[text].flatten)).c),(vU32 (hst ((xorL (blockM key) 54)++[text].flatten)).d),(vU32 (hst ((xorL (blockM key) 54)++[text].flatten)).e),(vU32 (hst ((xorL (blockM key) 54)++[text].flatten)).f),(vU32 (hst ((xorL (blockM key) 54)++[text].flatten)).g),(vU32 (hst ((xorL (blockM key) 54)++[text].flatten)).h),v3,(vN ((xorL (blockM key) 54)++[text].flatten).length)] 325,.row v3 5 1 (hrest ((xorL (blockM key) 54)++[text].flatten)).length (List.map vU8 (hrest ((xorL (blockM key) 54)++[text].flatten)))] [] rfl rfl hq3 (Fits.solid True.intro (Fits.solid True.intro (Fits.solid True.intro Fits.nil)))
 refine wn<|ws<|wm rfl<|wo (op_callF Fa.C155 rfl ((macs_ok m1 q1 v3 (blockM key) ((xorL (blockM key) 54)++[text].flatten) _ (H3.cellsAt (i:=0) rfl) (H3.cellsAt (i:=1) rfl) (H3.arrR (i:=2) rfl) (by simp [xorL_length,blockM_length]; omega) (by rw [blockM_length]; decide)).mono (fun e w4 hq=>?_)))
 obtain ⟨rfl,hf4⟩:=hq
 refine ⟨_,rfl,?_⟩
 have H4:=H3.fr' hf4
 exact wa rfl<|wn<|WC.ret<|WQ.out (.tmp rfl .nil) (⟨by simp [tup,mac],H4.fr⟩)
theorem mcheck_ok (key text s:List UInt8) (w:World) (hk:key.length<2^40) (ht:text.length<2^39) :
  Calls Tryz.prog 115 #[(str key),(str text),(str s)] w (fun e w'=>e=.returned (.bool (decide (s=mac key text)))∧Fr [] w w'):=by
 refine enter (args:=[(str key),(str text),(str s)]) Tryz.func115 rfl rfl ?_
 have H0:Owl.Own [] w w []:=Own.start w []
 have hl:=mac_length key text
 refine ws<|wa rfl<|wn<|ws<|wm rfl<|wm rfl<|wo (op_callF Fa.C112 rfl ((msum_ok key text _ hk ht).mono (fun e w1 hq=>?_)))
 obtain ⟨rfl,hf1⟩:=hq
 refine ⟨_,rfl,?_⟩
 have H1:=H0.fr' hf1
 refine wa rfl<|wn<|WC.seq<|ws<|wm rfl<|wo (op_lenStr Tryz.underlying9 rfl<|wm rfl<|wo (op_lenStr Tryz.underlying9 rfl<|wo (op_neqN rfl rfl<|wn (wC (decide (s.length≠(mac key text).length)) (fun hb2=>?_) (fun hb2=>?_)))))
 ·
  have hc2:=dT hb2
  exact ws<|wa rfl<|wn<|WC.ret<|WQ.thenRet<|WQ.out (.tmp rfl .nil) (⟨by rw [ne_of_length hc2]; rfl,H1.fr⟩)
 ·
  have hc2:=dF hb2
  refine WC.skip<|WQ.next<|ws<|wa rfl<|wn<|WC.seq<|ws<|wm rfl<|wo (op_lenStr Tryz.underlying9 rfl<|wm rfl<|wn<|WC.block<|WC.loop (α:=Nat) (fun k=>[(2,(str s)),(7,(str (mac key text))),(8,(vU8 (orTo s (mac key text) k))),(19,(vN (mac key text).length)),(20,(vN k))]) (fun k w'=>(k≤(mac key text).length)∧Owl.Own [] w w' []) (fun k=>(mac key text).length-k) 0 ⟨(by omega),H1⟩ ⟨rfl,rfl,rfl,rfl,rfl,trivial⟩ ?_)
  rintro k w3 ⟨hinv,H3⟩
  show WC _ _ _ _ _ [(2,(str s)),(7,(str (mac key text))),(8,(vU8 (orTo s (mac key text) k))),(19,(vN (mac key text).length)),(20,(vN k))] _
  refine ws<|wo (op_lssN rfl rfl<|wn<|WC.seq (wC (decide (k<(mac key text).length)) (fun hb4=>?_) (fun hb4=>?_)))
  ·
   have hc4:=dT hb4
   refine WC.skip<|WQ.next<|WC.seq<|WC.block<|ws<|wm rfl<|wa rfl<|wn<|WC.draw 10 Fa.M H3 (mh rfl<|mh rfl<|mh rfl<|oh (fun w1 H1=>op_indexStrD Tryz.underlying9 rfl rfl (by omega) zr)<|mh rfl<|mh rfl<|oh (fun w1 H1=>op_indexStrD Tryz.underlying9 rfl rfl (by omega) zr)<|oh (fun w1 H1=>op_xorU8 rfl rfl zr)<|oh (fun w1 H1=>op_orU8 rfl rfl zr)<|ah rfl  HW.nil) (by kernel_rfl) ?_
   intro β5 w5 H5
   exact WL.nil<|WQ.inNormal<|WQ.next<|WC.region<|wo (op_addN (b:=1) rfl rfl (by omega)<|wm rfl<|WL.nil<|WQ.round (k+1) ⟨(by omega),H5⟩ ⟨rfl,rfl,rfl,rfl,rfl,trivial⟩ (by omega))
  ·
   have hc4:=dF hb4
   exact WC.exit<|WQ.thenExit<|WQ.thenExit<|WQ.inHere<|WQ.next<|ws<|wm rfl<|wo (op_eqlU8 (b:=0) rfl rfl<|wa rfl<|wn<|WC.ret<|WQ.out (.tmp rfl .nil) (⟨by have hk2:k=(mac key text).length:=(by omega); subst hk2; rw [orTo_eq (by omega)]; rfl,H3.fr⟩))
end Go.Proofs.YtbjhccnffacbcaaGreat
namespace Go.Proofs
open Go.Shelf
def Tryz.lays105_ren:Go.Shelf.Ren:=⟨fun | 105=>152 | 212=>169 | 99=>188 | 165=>189 | 166=>106 | 170=>190 | 169=>109 | 263=>205 | 264=>206 | 206=>224 | 240=>150 | 241=>225 | 276=>186 | 277=>242 | n=>n,fun | 9=>9 | 3=>3 | 4=>4 | 20=>20 | 0=>0 | 46=>265 | 109=>266 | 5=>5 | 72=>175 | 76=>178 | 51=>22 | 146=>304 | 53=>154 | 148=>306 | 70=>173 | 37=>114 | 75=>177 | 127=>243 | 164=>285 | 80=>183 | n=>n,fun | n=>n⟩
theorem Tryz.lays105:Go.Proofs.Lays.n105 Tryz.prog Tryz.lays105_ren:={
 mixed:=by kernel_rfl
 f99:=Tryz.func188.trans (congrArg some (by kernel_rfl))
 f105:=Tryz.func152.trans (congrArg some (by kernel_rfl))
 f165:=Tryz.func189.trans (congrArg some (by kernel_rfl))
 f166:=Tryz.func106.trans (congrArg some (by kernel_rfl))
 f169:=Tryz.func109.trans (congrArg some (by kernel_rfl))
 f170:=Tryz.func190.trans (congrArg some (by kernel_rfl))
 f206:=Tryz.func224.trans (congrArg some (by kernel_rfl))
 f212:=Tryz.func169.trans (congrArg some (by kernel_rfl))
 f240:=Tryz.func150.trans (congrArg some (by kernel_rfl))
 f241:=Tryz.func225.trans (congrArg some (by kernel_rfl))
 f263:=Tryz.func205.trans (congrArg some (by kernel_rfl))
 f264:=Tryz.func206.trans (congrArg some (by kernel_rfl))
 f276:=Tryz.func186.trans (congrArg some (by kernel_rfl))
 f277:=Tryz.func242.trans (congrArg some (by kernel_rfl))
 t0:=Tryz.underlying0
 a0:=Tryz.isAgg0
 z0:=Tryz.sizeOf0
 v0:=Tryz.zeroValue0
 t3:=Tryz.underlying3
 a3:=Tryz.isAgg3
 z3:=Tryz.sizeOf3
 v3:=Tryz.zeroValue3
 t4:=Tryz.underlying4
 a4:=Tryz.isAgg4
 z4:=Tryz.sizeOf4
 v4:=Tryz.zeroValue4
 t5:=Tryz.underlying5
 a5:=Tryz.isAgg5
 z5:=Tryz.sizeOf5
 v5:=Tryz.zeroValue5
 t9:=Tryz.underlying9
 a9:=Tryz.isAgg9
 z9:=Tryz.sizeOf9
 v9:=Tryz.zeroValue9
 t20:=Tryz.underlying20
 a20:=Tryz.isAgg20
 z20:=Tryz.sizeOf20
 v20:=Tryz.zeroValue20
 t37:=Tryz.underlying114
 a37:=Tryz.isAgg114
 z37:=Tryz.sizeOf114
 v37:=Tryz.zeroValue114
 t46:=Tryz.underlying265
 a46:=Tryz.isAgg265
 z46:=Tryz.sizeOf265
 v46:=Tryz.zeroValue265
 t51:=Tryz.underlying22
 a51:=Tryz.isAgg22
 z51:=Tryz.sizeOf22
 v51:=Tryz.zeroValue22
 t53:=Tryz.underlying154
 a53:=Tryz.isAgg154
 z53:=Tryz.sizeOf154
 v53:=Tryz.zeroValue154
 t70:=Tryz.underlying173
 a70:=Tryz.isAgg173
 z70:=Tryz.sizeOf173
 v70:=Tryz.zeroValue173
 t72:=Tryz.underlying175
 a72:=Tryz.isAgg175
 z72:=Tryz.sizeOf175
 v72:=Tryz.zeroValue175
 t75:=Tryz.underlying177
 a75:=Tryz.isAgg177
 z75:=Tryz.sizeOf177
 v75:=Tryz.zeroValue177
 t76:=Tryz.underlying178
 a76:=Tryz.isAgg178
 z76:=Tryz.sizeOf178
 v76:=Tryz.zeroValue178
 t109:=Tryz.underlying266
 a109:=Tryz.isAgg266
 z109:=Tryz.sizeOf266
 v109:=Tryz.zeroValue266
 t127:=Tryz.underlying243
 a127:=Tryz.isAgg243
 z127:=Tryz.sizeOf243
 v127:=Tryz.zeroValue243
 t146:=Tryz.underlying304
 a146:=Tryz.isAgg304
 z146:=Tryz.sizeOf304
 v146:=Tryz.zeroValue304
 t148:=Tryz.underlying306
 a148:=Tryz.isAgg306
 z148:=Tryz.sizeOf306
 v148:=Tryz.zeroValue306
 t164:=Tryz.underlying285
 a164:=Tryz.isAgg285
 z164:=Tryz.sizeOf285
 v164:=Tryz.zeroValue285 }
end Go.Proofs
namespace Go.Proofs.YtbjhccnffacbcaaGreat
open Go.Owl Go.Spec
theorem mul64_ok (x y:UInt64) (w:World) (h:x.toNat * y.toNat<2^64) :
  Calls Tryz.prog 169 #[vU64 x,vU64 y] w (fun e w'=>e=.returned (.tuple #[vU64 0,vU64 (x * y)])∧Fr [] w w'):=by
 refine (Any.bits_Mul (ρ:=Tryz.lays105_ren) { Tryz.lays105 with } x.toNat y.toNat x.toNat_lt y.toNat_lt w).mono (fun e w' h2=>⟨?_,by rw [h2.2]; exact Fr.refl _ _⟩)
 rw [h2.1]
 have e1:x.toNat * y.toNat / 18446744073709551616=0:=Nat.div_eq_of_lt h
 have e2:x.toNat * y.toNat%18446744073709551616=(x * y).toNat:=by rw [UInt64.toNat_mul]
 rw [e1,e2]; rfl
theorem clone32_ok (lv:Value) (l:List UInt32) (w:World) (hA:Arr w lv 1 l.length (List.map vU32 l)) (hn:l.length<2^40) :
  Calls Tryz.prog 127 #[lv] w (fun e w'=> ∃v,e=.returned v∧Owl.Own [] w w' [.row v 22 1 l.length (List.map vU32 l)]):=by
 refine enter (args:=[lv]) Tryz.func127 rfl rfl ?_
 have H0:Owl.Own [] w w []:=Own.start w []
 refine ws<|wa rfl<|wn<|WC.seq<|ws<|wm rfl<|wo (op_eqlSN Tryz.underlying73 rfl (H0.arr hA) rfl<|wn (wC (isNilS lv) (fun hb1=>?_) (fun hb1=>?_)))
 ·
  refine ws<|wa rfl<|wn<|WC.ret<|WQ.thenRet<|WQ.out (.tmp rfl .nil) ?_
  obtain rfl:l=[]:=List.eq_nil_of_length_eq_zero (hA.isNil0 hb1).1
  exact ⟨_,rfl,(H0.sel [] rfl rfl).nilRow 22 1⟩
 ·
  refine WC.skip<|WQ.next<|ws<|wo (op_buildSlice (cs:=[]) H0 Tryz.underlying73 Fa.I22 rfl rfl rfl rfl (by decide) (by decide) (fun b2 w2 H2=>(wm rfl<|wo (op_append (i:=0) H2 Tryz.underlying73 Fa.I22 rfl rfl rfl rfl (Src.ofArr Tryz.underlying73 (H2.arr hA)) (by simp [Value.oneCell']) (by omega) (by omega) (fun v3 w3 H3=>(wa rfl<|wn<|WC.ret<|WQ.out (.tmp rfl .nil) ?_))))))
  have h:=H3.sel [0] rfl rfl
  rw [Nat.zero_add,List.nil_append] at h
  exact ⟨_,rfl,h⟩
theorem hardE_ok (pg:UInt32) (lv:Value) (he:List UInt32) (w:World) (hA:Arr w lv 1 he.length (List.map vU32 he)) (hn:he.length<2^40) :
  Calls Tryz.prog 168 #[(.agg #[(vU32 pg),lv])] w (fun e w'=>e=.returned (vN (hardE pg he))∧Fr [] w w'):=by
 refine enter (args:=[(.agg #[(vU32 pg),lv])]) Tryz.func168 rfl rfl ?_
 have H0:Owl.Own [] w w []:=Own.start w []
 refine ws<|wo (op_box H0 rfl rfl (fun b1 w1 H1=>(wa rfl<|wn<|WC.seq<|ws<|wo (op_fieldAddr rfl Fa.F75_0<|wo (op_load rfl (H1.cell (i:=0) rfl rfl) Tryz.underlying22 rfl<|wo (op_gtrU32 (b:=4096) rfl rfl<|wm rfl (wV 8 (decide (pg>(4096:UInt32))) (fun hb2=>?_) (fun hb2=>?_))))))))
 ·
  have hc2:=dT hb2
  exact wN hb2<|wN hb2<|wN hb2<|wN hb2<|wo (op_pickT rfl hb2 rfl<|wn<|WC.yes rfl rfl<|ws<|wa rfl<|wn<|WC.ret<|WQ.thenRet<|WQ.out (.tmp rfl .nil) (⟨by rw [hardE,if_pos (.inl (dT hb2))]; rfl,H1.fr⟩))
 ·
  have hc2:=dF hb2
  refine wY hb2 (op_fieldAddr rfl Fa.F75_1<|wY hb2 (op_load rfl (H1.cell (i:=0) rfl rfl) Tryz.underlying73 rfl<|wY hb2 (op_lenA Tryz.underlying73 rfl (H1.arr hA)<|wY hb2 (op_gtrN (b:=16) rfl rfl<|wo (op_pickF rfl hb2 rfl<|wn (wC (decide (he.length>16)) (fun hb3=>?_) (fun hb3=>?_)))))))
  ·
   have hc3:=dT hb3
   exact ws<|wa rfl<|wn<|WC.ret<|WQ.thenRet<|WQ.out (.tmp rfl .nil) (⟨by rw [hardE,if_pos (.inr (.inl (dT hb3)))]; rfl,H1.fr⟩)
  ·
   have hc3:=dF hb3
   refine WC.skip<|WQ.next<|WC.seq<|ws<|wo (op_fieldAddr rfl Fa.F75_1<|wo (op_load rfl (H1.cell (i:=0) rfl rfl) Tryz.underlying73 rfl<|wo (op_lenA Tryz.underlying73 rfl (H1.arr hA)<|wm rfl<|wn<|WC.block<|WC.loop (α:=Nat) (fun i=>[(0,(.agg #[(vU32 pg),lv])),(1,(ptr b1 0)),(15,lv),(16,(vN he.length)),(17,(vN i))]) (fun i w'=>(i≤he.length∧(∀j,j<i→¬he.getD j 0>1024))∧Owl.Own [] w w' [.blk b1 [(vU32 pg),lv] 75]) (fun i=>he.length-i) 0 ⟨⟨Nat.zero_le _,fun j h=>by omega⟩,H1⟩ ⟨rfl,rfl,rfl,rfl,rfl,trivial⟩ ?_)))
   rintro i w4 ⟨⟨hi1,hok⟩,H4⟩
   show WC _ _ _ _ _ [(0,(.agg #[(vU32 pg),lv])),(1,(ptr b1 0)),(15,lv),(16,(vN he.length)),(17,(vN i))] _
   refine ws<|wo (op_lssN rfl rfl<|wn<|WC.seq (wC (decide (i<he.length)) (fun hb5=>?_) (fun hb5=>?_)))
   ·
    have hc5:=dT hb5
    refine WC.skip<|WQ.next<|WC.seq<|WC.block<|ws<|wo (op_indexAddr1 Tryz.underlying73 Fa.I22 rfl (H4.arr hA) rfl (by omega)<|wo (op_load rfl ((H4.arr hA).at (get_map vU32 0 (Arr.ltM (H4.arr hA) (by omega)))) Tryz.underlying22 rfl<|wa rfl<|wn<|ws<|wm rfl<|wo (op_gtrU32 (b:=1024) rfl rfl<|wn (wC (decide ((he.getD i 0)>(1024:UInt32))) (fun hb6=>?_) (fun hb6=>?_)))))
    ·
     have hc6:=dT hb6
     exact ws<|wa rfl<|wn<|WC.ret<|WQ.inRet<|WQ.thenRet<|WQ.thenRet<|WQ.inRet<|WQ.thenRet<|WQ.out (.tmp rfl .nil) (⟨by rw [hardE,if_pos (.inr (.inr (any_yes (d:=0) (k:=i) (by omega) hb6)))]; rfl,H4.fr⟩)
    ·
     have hc6:=dF hb6
     exact WC.skip<|WQ.inNormal<|WQ.next<|WC.region<|wo (op_addN (b:=1) rfl rfl (by omega)<|wm rfl<|WL.nil<|WQ.round (i+1) ⟨⟨by omega,fun j h=>by rcases Nat.lt_or_ge j i with h9 | h9; exact hok j h9; rw [show j=i by omega]; exact dF hb6⟩,H4⟩ ⟨rfl,rfl,rfl,rfl,rfl,trivial⟩ (by omega))
   ·
    have hc5:=dF hb5
    exact WC.exit<|WQ.thenExit<|WQ.thenExit<|WQ.inHere<|WQ.next<|ws<|wa rfl<|wn<|WC.ret<|WQ.out (.tmp rfl .nil) (⟨by rw [hardE,if_neg (fun h=>h.elim (dF hb2) (fun h=>h.elim (dF hb3) (fun h=>by rw [any_no (p:=fun x:UInt32=>decide (x>1024)) (d:=0) (fun j h1=>decide_eq_false (hok j (by omega)))] at h; cases h)))]; rfl,H4.fr⟩)
theorem capsNew_ok (pg:UInt32) (lv:Value) (he:List UInt32) (w:World) (hA:Arr w lv 1 he.length (List.map vU32 he)) (hn:he.length<2^40) (hok0:hardE pg he=0) :
  Calls Tryz.prog 126 #[(.agg #[(vU32 pg),lv])] w (fun e w'=> ∃c v mb,e=.returned (.tuple #[ptr c 0,vN 0])∧Owl.Own [] w w' [.blk c [vU32 pg,v,.map (some mb)] 196,.row v 22 1 he.length (List.map vU32 he),.obj mb (mP .i64 [] 0)]):=by
 refine enter (args:=[(.agg #[(vU32 pg),lv])]) Tryz.func126 rfl rfl ?_
 have H0:Owl.Own [] w w []:=Own.start w []
 refine ws<|wo (op_box H0 rfl rfl (fun b1 w1 H1=>(wa rfl<|wa rfl<|wn<|WC.seq<|ws<|wo (op_loadS (vs:=[_,_]) rfl (H1.cells (i:=0) rfl rfl) Tryz.underlying75 rfl Fa.I75 rfl<|wo (op_callF Fa.C168 rfl ((hardE_ok pg _ he _ (H1.arr hA) hn).mono (fun e w2 hq=>?_)))))))
 obtain ⟨rfl,hf2⟩:=hq
 refine ⟨_,rfl,?_⟩
 have H2:=H1.fr' hf2
 refine wa rfl<|wn<|ws<|wm rfl<|wo (op_neqN (b:=0) rfl rfl<|wn<|WC.no rfl (decide_eq_false (fun h=>h hok0))<|WC.skip<|WQ.next<|ws<|wo (op_fieldAddr rfl Fa.F75_1<|wo (op_load rfl (H2.cell (i:=0) rfl rfl) Tryz.underlying73 rfl<|wo (op_callF Fa.C127 rfl ((clone32_ok _ he _ (H2.arr hA) hn).mono (fun e w3 hq=>?_))))))
 obtain ⟨v3,rfl,hq3⟩:=hq
 refine ⟨_,rfl,?_⟩
 have H3:=H2.splice [] [] [.row v3 22 1 he.length (List.map vU32 he)] rfl rfl hq3 (Fits.solid True.intro Fits.nil)
 exact wo (op_fieldAddr rfl Fa.F75_1<|wo (op_storeB (i:=0) H3 rfl rfl rfl rfl (Arr.one (H3.arrR (i:=1) rfl)) Fa.I73 (fun w4 H4=>(wn<|ws<|wo (op_loadS (vs:=[_,_]) rfl (H4.cells (i:=0) rfl rfl) Tryz.underlying75 rfl Fa.I75 rfl<|wo (op_makeMapP (kk:=.i64) H4 (fun b5 w5 H5=>(wo (op_build (cs:=[_,_,_]) Fa.I196 Fa.PL196 rfl rfl<|wo (op_box H5 rfl rfl (fun b6 w6 H6=>(wa rfl<|wa rfl<|wn<|WC.ret<|WQ.out (.tmp rfl (.tmp rfl .nil)) (⟨_,_,_,rfl,H6.sel [3,1,2] rfl rfl⟩)))))))))))))
theorem capsNewB_ok (pg:UInt32) (lv:Value) (he:List UInt32) (w:World) (hA:Arr w lv 1 he.length (List.map vU32 he)) (hn:he.length<2^40) (hbad:hardE pg he≠0) :
  Calls Tryz.prog 126 #[(.agg #[(vU32 pg),lv])] w (fun e w'=>e=.returned (.tuple #[.pointer none,vN 2])∧Fr [] w w'):=by
 refine enter (args:=[(.agg #[(vU32 pg),lv])]) Tryz.func126 rfl rfl ?_
 have H0:Owl.Own [] w w []:=Own.start w []
 refine ws<|wo (op_box H0 rfl rfl (fun b1 w1 H1=>(wa rfl<|wa rfl<|wn<|WC.seq<|ws<|wo (op_loadS (vs:=[_,_]) rfl (H1.cells (i:=0) rfl rfl) Tryz.underlying75 rfl Fa.I75 rfl<|wo (op_callF Fa.C168 rfl ((hardE_ok pg _ he _ (H1.arr hA) hn).mono (fun e w2 hq=>?_)))))))
 obtain ⟨rfl,hf2⟩:=hq
 refine ⟨_,rfl,?_⟩
 have H2:=H1.fr' hf2
 exact wa rfl<|wn<|ws<|wm rfl<|wo (op_neqN (b:=0) rfl rfl<|wn<|WC.yes rfl (decide_eq_true hbad)<|ws<|wm rfl<|wa rfl<|wa rfl<|wn<|WC.ret<|WQ.thenRet<|WQ.out (.tmp rfl (.tmp rfl .nil)) (⟨by rw [hardE_2 hbad]; rfl,H2.fr⟩))
theorem nicNew_ok  (w:World) :
  Calls Tryz.prog 128 #[] w (fun e w'=> ∃q mb,e=.returned (ptr q 0)∧Owl.Own [] w w' [.blk q [.map (some mb),.slice none 0 0,vN 0] 264,.obj mb (mP .u16 [] 0)]):=by
 refine enter (args:=[]) Tryz.func128 rfl rfl ?_
 have H0:Owl.Own [] w w []:=Own.start w []
 exact ws<|wa rfl<|wn<|ws<|wo (op_makeMapP (kk:=.u16) H0 (fun b1 w1 H1=>(wo (op_build (cs:=[_,_,_]) Fa.I264 Fa.PL264 rfl rfl<|wo (op_box H1 rfl rfl (fun b2 w2 H2=>(wa rfl<|wn<|WC.ret<|WQ.out (.tmp rfl .nil) (⟨_,_,rfl,H2.sel [1,0] rfl rfl⟩))))))))
theorem repeatS_ok (lv:Value) (z:List UInt8) (c:Nat) (w:World) (hA:Arr w lv 1 1 (List.map str [z])) (hc:c<2^32) :
  Calls Tryz.prog 129 #[lv,(vN c)] w (fun e w'=> ∃v,e=.returned v∧Owl.Own [] w w' [.row v 9 1 c (List.map str (List.replicate c z))]):=by
 refine enter (args:=[lv,(vN c)]) Tryz.func129 rfl rfl ?_
 have H0:Owl.Own [] w w []:=Own.start w []
 have hc1:(UInt64.ofNat 1).toNat=1:=rfl
 have hc2:(UInt64.ofNat c).toNat=c:=by rw [UInt64.toNat_ofNat']; exact Nat.mod_eq_of_lt (by omega)
 have hcc:(UInt64.ofNat 1 * UInt64.ofNat c).toNat=c:=by rw [UInt64.toNat_mul,hc1,hc2,Nat.one_mul]; exact Nat.mod_eq_of_lt (by omega)
 refine ws<|wa rfl<|wn<|WC.seq<|ws<|wm rfl<|wo (op_lssN (b:=0) rfl rfl<|wn<|WC.no rfl (decide_eq_false (by omega))<|WC.skip<|WQ.next<|ws<|wm rfl<|wo (op_lenA Tryz.underlying59 rfl (H0.arr hA)<|wo (op_convNU64 (hs:=Tryz.underlying3) (hd:=Tryz.underlying265) rfl<|wm rfl<|wo (op_convNU64 (hs:=Tryz.underlying3) (hd:=Tryz.underlying265) rfl<|wo (op_callF Fa.C169 rfl ((mul64_ok (UInt64.ofNat 1) (UInt64.ofNat c) _ (by rw [hc1,hc2]; omega)).mono (fun e w1 hq=>?_)))))))
 obtain ⟨rfl,hf1⟩:=hq
 refine ⟨_,rfl,?_⟩
 have H1:=H0.fr' hf1
 refine wm rfl<|we rfl rfl<|we rfl rfl<|wa rfl<|wa rfl<|wn<|WC.seq<|ws<|wm rfl<|wo (op_gtrU64 (a:=0) (b:=0) rfl rfl<|wm rfl<|WL.yes rfl rfl rfl (decide_eq_false (by decide)) rfl (op_move rfl<|WL.yes rfl rfl rfl (decide_eq_false (by decide)) rfl (op_gtrU64 (b:=9223372036854775807) rfl rfl<|wo (op_pickF rfl (decide_eq_false (by decide)) rfl<|wn<|WC.no rfl (decide_eq_false (by rw [gt_iff_lt,UInt64.lt_iff_toNat_lt,hcc]; show ¬9223372036854775807<c; omega))<|WC.skip<|WQ.next<|ws<|wm rfl<|wo (op_convU64N (hs:=Tryz.underlying265) (hd:=Tryz.underlying3) rfl (by rw [hcc]; omega) ?_)))))
 rw [hcc]
 refine wo (op_makeSliceM (f:=str) (c:=[]) H1 Tryz.underlying59 Fa.I9 rfl rfl (by omega) (by omega) (fun b2 w2 H2=>(wa rfl<|wn<|ws<|wm rfl<|wm rfl<|wo (op_copyM (i:=0) (f:=str) (l:=(List.replicate c [])) (r:=[z]) H2 Tryz.underlying59 Fa.I9 rfl rfl (SrcC.ofArr (H2.arr hA)) rfl (Sub.self (H2.arrR (i:=0) rfl)) (by omega) rfl (fun _=>rfl) (fun w3 H3=>(wa rfl<|wn<|WC.seq<|WC.block<|WC.loop (α:=Nat × List (List UInt8)) (fun (d,l1)=>[(7,(.slice (some ⟨b2,0,none⟩) c c)),(8,(vN d))]) (fun (d,l1) w'=>(d≤c∧(0<c→0<d)∧l1=List.replicate d z++List.replicate (c-d) [])∧Owl.Own [] w w' [.row (.slice (some ⟨b2,0,none⟩) c c) 9 1 c (List.map str l1)]) (fun (d,l1)=>c-d) (min 1 c,((List.replicate c []).take 0++([z].take (min 1 c)++(List.replicate c []).drop (0+(min 1 c))))) ⟨⟨by omega,by omega,by rcases Nat.eq_zero_or_pos c with h | h; subst h; rfl; rw [show min 1 c=1 by omega]; obtain ⟨q,rfl⟩: ∃q,c=q+1:=⟨c-1,by omega⟩; rfl⟩,H3⟩ ⟨rfl,rfl,trivial⟩ ?_))))))
 rintro ⟨d,l1⟩ w4 ⟨⟨hd1,hd2,hl1⟩,H4⟩
 show WC _ _ _ _ _ [(7,(.slice (some ⟨b2,0,none⟩) c c)),(8,(vN d))] _
 refine WC.seq<|ws<|wm rfl<|wm rfl<|wo (op_lenA Tryz.underlying59 rfl (H4.arrR (i:=0) rfl)<|wo (op_lssN rfl rfl<|wn (wC (decide (d<c)) (fun hb5=>?_) (fun hb5=>?_))))
 ·
  have hc5:=dT hb5
  refine WC.skip<|WQ.next<|WC.block<|WC.held 10 rfl Fa.M H4 (fun w'=> ∃L',Owl.Own [] w w' ([]++L')) ?_
  intro w6 H6
  refine xt 0 rfl (vN d) H6 (fun _ _ HX=>op_move rfl ⟨rfl,rfl⟩)<|xt 1 rfl (.slice (some ⟨b2,0,none⟩) c c) H6 (fun _ _ HX=>op_move rfl ⟨rfl,rfl⟩)<|xt 2 rfl (vN d) H6 (fun _ _ HX=>op_move rfl ⟨rfl,rfl⟩)<|xt 4 rfl (.slice (some ⟨b2,0,none⟩) c c) H6 (fun _ _ HX=>op_move rfl ⟨rfl,rfl⟩)<|xt 5 rfl (vN d) H6 (fun _ _ HX=>op_move rfl ⟨rfl,rfl⟩)<|WH.named (fun W hW=>?_)
  let e9:List (Nat × Value)→List (Nat × Value):=fun r=>(7,(.slice (some ⟨b2,0,none⟩) c c))::(34,(vN d))::(35,(.slice (some ⟨b2,0,none⟩) c c))::(36,(vN c))::(37,(.bool (decide (d<c))))::r
  let a9_0:Ent:=.row (.slice (some ⟨b2,0,none⟩) c c) 9 1 c (List.map str l1)
  have st9_4: ∀(wS:World),Owl.Own [] w wS [.row (.slice (some ⟨b2,0,none⟩) c c) 9 1 c (List.map str (l1.take d++((l1.take d).take (min d (c-d))++l1.drop (d+(min d (c-d))))))]→W 0 (bz 10 1023) (e9 [(8,(vN (d+(min d (c-d)))))]) wS:=by
   intro wS HS
   rw [hW]
   exact WH.done (by kernel_rfl)<|WQ.inNormal<|WQ.round ((d+(min d (c-d))),(l1.take d++((l1.take d).take (min d (c-d))++l1.drop (d+(min d (c-d)))))) ⟨⟨by omega,by omega,by rw [hl1]; exact repl_copy hd1 (by omega)⟩,HS⟩ ⟨rfl,rfl,trivial⟩ (by show c-(d+(min d (c-d)))<c-d; omega)
  have st9_3: ∀(wS:World),Owl.Own [] w wS [a9_0]→W 3 (bz 10 127) (e9 [(8,(vN d)),(38,(vN d)),(41,(cutV (.slice (some ⟨b2,0,none⟩) c c) d c 1)),(44,(cutV (.slice (some ⟨b2,0,none⟩) c c) 0 d 1))]) wS:=by
   intro wS HS
   rw [hW]
   refine wh1 7 ?_
   ·
    refine kH 7 rfl (op_copyM (i:=0) (f:=str) (l:=l1) (r:=(l1.take d)) HS Tryz.underlying59 Fa.I9 rfl rfl (SrcC.ofArr (((HS.arrR (i:=0) rfl)).cutHiM (f:=str) (l:=l1) (b:=d) (by omega))) rfl (Sub.cut (a:=d) (b:=c) (HS.arrR (i:=0) rfl) (by omega) (by omega)) (by omega) rfl (fun _=>rfl) (fun w17141 H17141=>(⟨⟨_,H17141⟩,?_⟩)))
    exact xt 8 rfl (vN (d+(min d (c-d)))) H17141 (fun _ _ HX=>op_addN rfl rfl (by omega) ⟨rfl,rfl⟩)<|xt 9 rfl (vN (d+(min d (c-d)))) H17141 (fun _ _ HX=>op_assign rfl ⟨rfl,rfl⟩)<|WH.cw hW (st9_4 w17141 H17141)
  have st9_1: ∀(wS:World),Owl.Own [] w wS [a9_0]→W 4 (bz 10 63) (e9 [(8,(vN d)),(38,(vN d)),(41,(cutV (.slice (some ⟨b2,0,none⟩) c c) d c 1)),(42,(.slice (some ⟨b2,0,none⟩) c c)),(43,(vN d))]) wS:=by
   intro wS HS
   rw [hW]
   refine wh1 6 ?_
   ·
    refine kH 6 rfl (op_cutHi Tryz.underlying59 Fa.I9 rfl (HS.arrR (i:=0) rfl) rfl (by omega) (⟨⟨_,HS⟩,?_⟩))
    exact WH.cw hW (st9_3 wS HS)
  have st9_2: ∀(wS:World),Owl.Own [] w wS [a9_0]→W 4 (bz 10 119) (e9 [(8,(vN d)),(38,(vN d)),(39,(.slice (some ⟨b2,0,none⟩) c c)),(40,(vN d)),(44,(cutV (.slice (some ⟨b2,0,none⟩) c c) 0 d 1))]) wS:=by
   intro wS HS
   rw [hW]
   refine wh1 3 ?_
   ·
    refine kH 3 rfl (op_cutLo Tryz.underlying59 Fa.I9 rfl (HS.arrR (i:=0) rfl) rfl (by omega) (⟨⟨_,HS⟩,?_⟩))
    exact WH.cw hW (st9_3 wS HS)
  have st9_0: ∀(wS:World),Owl.Own [] w wS [a9_0]→W 5 (bz 10 55) (e9 [(8,(vN d)),(38,(vN d)),(39,(.slice (some ⟨b2,0,none⟩) c c)),(40,(vN d)),(42,(.slice (some ⟨b2,0,none⟩) c c)),(43,(vN d))]) wS:=by
   intro wS HS
   rw [hW]
   refine wh2 3 6 ?_ ?_
   ·
    refine kH 3 rfl (op_cutLo Tryz.underlying59 Fa.I9 rfl (HS.arrR (i:=0) rfl) rfl (by omega) (⟨⟨_,HS⟩,?_⟩))
    exact WH.cw hW (st9_1 wS HS)
   ·
    refine kH 6 rfl (op_cutHi Tryz.underlying59 Fa.I9 rfl (HS.arrR (i:=0) rfl) rfl (by omega) (⟨⟨_,HS⟩,?_⟩))
    exact WH.cw hW (st9_2 wS HS)
  have hq:=st9_0 w6 H6
  rw [hW] at hq ⊢
  exact WH.cv hq
 ·
  have hc5:=dF hb5
  refine WC.exit<|WQ.thenExit<|WQ.thenExit<|WQ.inHere<|WQ.next<|ws<|wm rfl<|wa rfl<|wn<|WC.ret<|WQ.out (.tmp rfl .nil) ?_
  obtain rfl:d=c:=by omega
  exact ⟨_,rfl,Own.rowEq (i:=0) (f:=str) (H4.sel [0] rfl rfl) rfl (by rw [hl1,Nat.sub_self,List.replicate_zero,List.append_nil])⟩
theorem free_ok (c:Nat) (pg:UInt32) (hv:Value) (he:List UInt32) (mb cn:Nat) (gs:List Gr) (w:World) (hC:cellsAt w c [(vU32 pg),hv,(.map (some mb))]) (hH:Arr w hv 1 he.length (List.map vU32 he)) (hM:w.heap[mb]?=some (mP .i64 (List.map Gr.me gs) cn)) (hG:BsOK 199 Gr.cells Gr.b gs w) (hS:grD.list.ok w gs) (hME:MEok (List.map Gr.me gs) cn)  :
  Calls Tryz.prog 60 #[(ptr c 0)] w (fun e w'=>e=.returned (vU32 (freeS pg gs))∧Fr [] w w'):=by
 refine enter (args:=[(ptr c 0)]) Tryz.func60 rfl rfl ?_
 have H0:Owl.Own [] w w [Ent.bo c [(vU32 pg),hv,(.map (some mb))],Ent.ar hv 1 he.length (List.map vU32 he),Ent.mo .i64 mb (List.map Gr.me gs) cn,Ent.bsO 199 Gr.cells Gr.b gs,Ent.dp grD.list gs]:=((((((Own.start w []).oldB hC).oldA hH).mpOld hM).bsOld hG).dpOld hS)
 refine ws<|wa rfl<|wn<|WC.seq<|ws<|wm rfl<|wo (op_eqlPN Fa.PT110 rfl rfl<|wn<|WC.no rfl rfl<|WC.skip<|WQ.next<|ws<|wm rfl<|wo (op_nilCheck rfl<|wo (op_fieldAddr rfl Fa.F196_0<|wo (op_fieldAddr rfl Fa.F75_0<|wo (op_load rfl (H0.cellO (i:=0) rfl rfl) Tryz.underlying22 rfl<|wa rfl<|wn<|WC.seq<|ws<|wm rfl<|wo (op_nilCheck rfl<|wo (op_fieldAddr rfl Fa.F196_1<|wo (op_load rfl (H0.cellO (i:=0) rfl rfl) Tryz.underlying194 rfl<|wo (op_rangeP H0 (H0.mpO (i:=2) rfl) Tryz.underlying194 rfl (fun b1 w1 H1=>(wn<|WC.block<|WC.loop (α:=List Gr × List Gr) (fun (sn,rst)=>[(0,(ptr c 0)),(3,(vU32 (freeS pg sn))),(17,(ptr b1 0))]) (fun (sn,rst) w'=>(gs.Perm (sn++rst))∧Owl.Own [] w w' [Ent.bo c [(vU32 pg),hv,(.map (some mb))],Ent.ar hv 1 he.length (List.map vU32 he),Ent.mo .i64 mb (List.map Gr.me gs) cn,Ent.bsO 199 Gr.cells Gr.b gs,Ent.dp grD.list gs,.obj b1 (itO mb cn (List.map Gr.me sn))]) (fun (sn,rst)=>rst.length) ([],gs) ⟨(List.Perm.refl _),H1⟩ ⟨rfl,(by rw [freeS_nil]; rfl),rfl,trivial⟩ ?_)))))))))))
 rintro ⟨sn,rst⟩ w2 ⟨hpm,H2⟩
 show WC _ _ _ _ _ [(0,(ptr c 0)),(3,(vU32 (freeS pg sn))),(17,(ptr b1 0))] _
 refine ws<|wo (op_nextG (i:=5) (sn:=sn) (rest:=rst) H2 rfl (H2.mpO (i:=2) rfl) hME hpm rfl (fun h0=>?_) (fun g3 rs3 hl3 hp3 w3 H3=>?_))
 ·
  exact we rfl rfl<|wn<|WC.seq<|WC.no rfl rfl<|WC.exit<|WQ.thenExit<|WQ.thenExit<|WQ.inHere<|WQ.next<|ws<|wm rfl<|wa rfl<|wn<|WC.ret<|WQ.out (.tmp rfl .nil) (⟨by rw [h0,List.append_nil] at hpm; rw [freeS_perm hpm]; rfl,H2.fr⟩)
 ·
  have H4:=(((H3.bsView (i:=3) (a:=g3) rfl (hp3.mem_iff.2 (by simp))).dpView (i:=4) (a:=g3) rfl (hp3.mem_iff.2 (by simp)) (fun w h=>h.1) (fun b hb=>List.mem_append.2 (.inl hb))).dpView (i:=4) (a:=g3) rfl (hp3.mem_iff.2 (by simp)) (fun w h=>h.2) (fun b hb=>List.mem_append.2 (.inr hb)))
  refine we rfl rfl<|wn<|WC.seq<|WC.yes rfl rfl<|WC.skip<|WQ.next<|WC.block<|ws<|wo (op_entryG (i:=5) (sn:=sn) (g:=g3) H4 rfl (H4.mpO (i:=2) rfl) hME hp3 rfl<|we rfl rfl<|wa rfl<|wn<|WC.draw 13 Fa.M H4 (mh rfl<|mh rfl<|oh (fun w1 H1=>op_nilCheck rfl zr)<|oh (fun w1 H1=>op_fieldAddr rfl Fa.F199_0 zr)<|oh (fun w1 H1=>op_fieldAddr rfl Fa.F40_0 zr)<|oh (fun w1 H1=>op_load rfl (H1.cellO (i:=6) rfl rfl) Tryz.underlying22 rfl zr)<|mh rfl<|oh (fun w1 H1=>op_nilCheck rfl zr)<|oh (fun w1 H1=>op_fieldAddr rfl Fa.F199_1 zr)<|oh (fun w1 H1=>op_load rfl (H1.cellO (i:=6) rfl rfl) Tryz.underlying22 rfl zr)<|oh (fun w1 H1=>op_addU32 rfl rfl zr)<|oh (fun w1 H1=>op_subU32 rfl rfl zr)<|ah rfl  HW.nil) (by kernel_rfl) ?_)
  intro β5 w5 H5
  exact WL.nil<|WQ.inNormal<|WQ.round ((sn++[g3]),rs3) ⟨hp3,(H5.take 6)⟩ ⟨rfl,(by rw [freeS_snoc]; rfl),rfl,trivial⟩ (by show rs3.length<rst.length; omega)
theorem of_no (c:Nat) (pg:UInt32) (hv:Value) (he:List UInt32) (mb cn:Nat) (gs:List Gr) (env:Int) (w:World) (hC:cellsAt w c [(vU32 pg),hv,(.map (some mb))]) (hH:Arr w hv 1 he.length (List.map vU32 he)) (hM:w.heap[mb]?=some (mP .i64 (List.map Gr.me gs) cn)) (hG:BsOK 199 Gr.cells Gr.b gs w) (hS:grD.list.ok w gs) (hME:MEok (List.map Gr.me gs) cn) (no: ∀g∈gs,(g.e:Int)≠env) :
  Calls Tryz.prog 170 #[(ptr c 0),(vI env)] w (fun e w'=> ∃b,e=.returned (.tuple #[ptr b 0,.bool false])∧Owl.Own [] w w' [.blk b [vU32 0,.slice none 0 0,.slice none 0 0,.bool false,vU32 0,vU32 0] 199]):=by
 refine enter (args:=[(ptr c 0),(vI env)]) Tryz.func170 rfl rfl ?_
 have H0:Owl.Own [] w w [Ent.bo c [(vU32 pg),hv,(.map (some mb))],Ent.ar hv 1 he.length (List.map vU32 he),Ent.mo .i64 mb (List.map Gr.me gs) cn,Ent.bsO 199 Gr.cells Gr.b gs,Ent.dp grD.list gs]:=((((((Own.start w []).oldB hC).oldA hH).mpOld hM).bsOld hG).dpOld hS)
 exact ws<|wa rfl<|wa rfl<|wn<|WC.seq<|ws<|wm rfl<|wo (op_eqlPN Fa.PT110 rfl rfl<|wm rfl<|wY rfl (op_move rfl<|wY rfl (op_nilCheck rfl<|wY rfl (op_fieldAddr rfl Fa.F196_1<|wY rfl (op_load rfl (H0.cellO (i:=0) rfl rfl) Tryz.underlying194 rfl<|wY rfl (op_move rfl<|wY rfl (op_lookG_no (H0.mpO (i:=2) rfl) no Tryz.underlying194 Tryz.underlying3 Fa.Z197 rfl rfl<|wY rfl (op_eqlPN Fa.PT197 rfl rfl<|wo (op_pickF rfl rfl rfl<|wn<|WC.yes rfl rfl<|ws<|wo (op_build (cs:=[_,_,_,_,_,_]) Fa.I199 Fa.PL199 rfl rfl<|wo (op_box H0 rfl rfl (fun b1 w1 H1=>(wa rfl<|wa rfl<|wn<|WC.ret<|WQ.thenRet<|WQ.out (.tmp rfl (.tmp rfl .nil)) (⟨_,rfl,H1.sel [5] rfl rfl⟩))))))))))))))
theorem of_some (c:Nat) (pg:UInt32) (hv:Value) (he:List UInt32) (mb cn:Nat) (gs:List Gr) (env:Int) (g:Gr) (w:World) (hC:cellsAt w c [(vU32 pg),hv,(.map (some mb))]) (hH:Arr w hv 1 he.length (List.map vU32 he)) (hM:w.heap[mb]?=some (mP .i64 (List.map Gr.me gs) cn)) (hG:BsOK 199 Gr.cells Gr.b gs w) (hS:grD.list.ok w gs) (hME:MEok (List.map Gr.me gs) cn) (hg:g∈gs) (hge:(g.e:Int)=env) :
  Calls Tryz.prog 170 #[(ptr c 0),(vI env)] w (fun e w'=>e=.returned (.tuple #[ptr g.b 0,.bool true])∧Fr [] w w'):=by
 refine enter (args:=[(ptr c 0),(vI env)]) Tryz.func170 rfl rfl ?_
 have H0:Owl.Own [] w w [Ent.bo c [(vU32 pg),hv,(.map (some mb))],Ent.ar hv 1 he.length (List.map vU32 he),Ent.mo .i64 mb (List.map Gr.me gs) cn,Ent.bsO 199 Gr.cells Gr.b gs,Ent.dp grD.list gs]:=((((((Own.start w []).oldB hC).oldA hH).mpOld hM).bsOld hG).dpOld hS)
 refine ws<|wa rfl<|wa rfl<|wn<|WC.seq<|ws<|wm rfl<|wo (op_eqlPN Fa.PT110 rfl rfl<|wm rfl<|wY rfl (op_move rfl<|wY rfl (op_nilCheck rfl<|wY rfl (op_fieldAddr rfl Fa.F196_1<|wY rfl (op_load rfl (H0.cellO (i:=0) rfl rfl) Tryz.underlying194 rfl<|wY rfl (op_move rfl ?_))))))
 have H1:=(((H0.bsView (i:=3) (a:=g) rfl hg).dpView (i:=4) (a:=g) rfl hg (fun w h=>h.1) (fun b hb=>List.mem_append.2 (.inl hb))).dpView (i:=4) (a:=g) rfl hg (fun w h=>h.2) (fun b hb=>List.mem_append.2 (.inr hb)))
 exact wY rfl (op_lookG_some (g:=g) (H0.mpO (i:=2) rfl) hME hg hge Tryz.underlying194 Tryz.underlying3 rfl rfl<|wY rfl (op_eqlPN Fa.PT197 rfl rfl<|wo (op_pickF rfl rfl rfl<|wn<|WC.no rfl rfl<|WC.skip<|WQ.next<|ws<|wm rfl<|wo (op_nilCheck rfl<|wo (op_fieldAddr rfl Fa.F196_1<|wo (op_load rfl (H1.cellO (i:=0) rfl rfl) Tryz.underlying194 rfl<|wm rfl<|wo (op_lookG_some (g:=g) (H1.mpO (i:=2) rfl) hME hg hge Tryz.underlying194 Tryz.underlying3 rfl rfl<|wa rfl<|wa rfl<|wn<|WC.ret<|WQ.out (.tmp rfl (.tmp rfl .nil)) (⟨rfl,H1.fr⟩))))))))
theorem xtbad_ok (x:Xt) (w:World) :
  Calls Tryz.prog 136 #[(.agg #[(vU32 x.id),(vU32 x.bl)])] w (fun e w'=>e=.returned (.bool (xtBad x))∧Fr [] w w'):=by
 refine enter (args:=[(.agg #[(vU32 x.id),(vU32 x.bl)])]) Tryz.func136 rfl rfl ?_
 have H0:Owl.Own [] w w []:=Own.start w []
 refine ws<|wo (op_box H0 rfl rfl (fun b1 w1 H1=>(wa rfl<|wn<|ws<|wo (op_fieldAddr rfl Fa.F207_0<|wo (op_load rfl (H1.cell (i:=0) rfl rfl) Tryz.underlying22 rfl<|wo (op_geqU32 (b:=16) rfl rfl<|wm rfl (wV 6 (decide (x.id≥(16:UInt32))) (fun hb2=>?_) (fun hb2=>?_))))))))
 ·
  have hc2:=dT hb2
  exact wN hb2<|wN hb2<|wN hb2<|wo (op_pickT rfl hb2 rfl<|wm rfl<|wN rfl<|wN rfl<|wN rfl<|wo (op_pickT rfl rfl rfl<|wa rfl<|wn<|WC.ret<|WQ.out (.tmp rfl .nil) (⟨by (rw [xtBad,hb2])<;>rfl,H1.fr⟩)))
 ·
  have hc2:=dF hb2
  refine wY hb2 (op_fieldAddr rfl Fa.F207_1<|wY hb2 (op_load rfl (H1.cell (i:=0) rfl rfl) Tryz.underlying22 rfl<|wY hb2 (op_lssU32 (b:=1) rfl rfl<|wo (op_pickF rfl hb2 rfl<|wm rfl (wV 11 (decide (x.bl<(1:UInt32))) (fun hb3=>?_) (fun hb3=>?_))))))
  ·
   have hc3:=dT hb3
   exact wN hb3<|wN hb3<|wN hb3<|wo (op_pickT rfl hb3 rfl<|wa rfl<|wn<|WC.ret<|WQ.out (.tmp rfl .nil) (⟨by (rw [xtBad,hb2,hb3])<;>rfl,H1.fr⟩))
  ·
   have hc3:=dF hb3
   exact wY hb3 (op_fieldAddr rfl Fa.F207_1<|wY hb3 (op_load rfl (H1.cell (i:=0) rfl rfl) Tryz.underlying22 rfl<|wY hb3 (op_gtrU32 (b:=1024) rfl rfl<|wo (op_pickF rfl hb3 rfl<|wa rfl<|wn<|WC.ret<|WQ.out (.tmp rfl .nil) (⟨by (rw [xtBad,hb2,hb3])<;>rfl,H1.fr⟩)))))
theorem xtlt_ok (x y:Xt) (w:World) :
  Calls Tryz.prog 138 #[(.agg #[(vU32 x.id),(vU32 x.bl)]),(.agg #[(vU32 y.id),(vU32 y.bl)])] w (fun e w'=>e=.returned (.bool (xtLt x y))∧Fr [] w w'):=by
 refine enter (args:=[(.agg #[(vU32 x.id),(vU32 x.bl)]),(.agg #[(vU32 y.id),(vU32 y.bl)])]) Tryz.func138 rfl rfl ?_
 have H0:Owl.Own [] w w []:=Own.start w []
 exact ws<|wo (op_box H0 rfl rfl (fun b1 w1 H1=>(wo (op_box H1 rfl rfl (fun b2 w2 H2=>(wa rfl<|wn<|ws<|wo (op_fieldAddr rfl Fa.F207_0<|wo (op_load rfl (H2.cell (i:=0) rfl rfl) Tryz.underlying22 rfl<|wo (op_fieldAddr rfl Fa.F207_0<|wo (op_load rfl (H2.cell (i:=1) rfl rfl) Tryz.underlying22 rfl<|wo (op_lssU32 rfl rfl<|wa rfl<|wn<|WC.ret<|WQ.out (.tmp rfl .nil) (⟨rfl,H2.fr⟩))))))))))))
theorem u16lt_ok (x y:UInt16) (w:World) :
  Calls Tryz.prog 140 #[(vU16 x),(vU16 y)] w (fun e w'=>e=.returned (.bool (u16Lt x y))∧Fr [] w w'):=by
 refine enter (args:=[(vU16 x),(vU16 y)]) Tryz.func140 rfl rfl ?_
 have H0:Owl.Own [] w w []:=Own.start w []
 exact ws<|wa rfl<|wn<|ws<|wm rfl<|wm rfl<|wo (op_lssU16 rfl rfl<|wa rfl<|wn<|WC.ret<|WQ.out (.tmp rfl .nil) (⟨rfl,H0.fr⟩))
theorem idxX_ok (lv:Value) (l:List Xt) (w:World) (hA:Arr w lv 2 l.length (List.flatMap xtc l)) (hn:l.length<2^47) :
  Calls Tryz.prog 177 #[lv,(.func (.func 136) #[] #[])] w (fun e w'=>e=.returned (vI (fidx xtBad l))∧Fr [] w w'):=by
 refine enter (args:=[lv,(.func (.func 136) #[] #[])]) Tryz.func177 rfl rfl ?_
 have H0:Owl.Own [] w w []:=Own.start w []
 refine ws<|wa rfl<|wn<|WC.seq<|ws<|wm rfl<|wo (op_lenA Tryz.underlying37 rfl (H0.arr hA)<|wm rfl<|wn<|WC.block<|WC.loop (α:=Nat) (fun k=>[(0,lv),(1,(.func (.func 136) #[] #[])),(7,(vN l.length)),(8,(vN k))]) (fun k w'=>(k≤l.length∧(∀j,j<k→xtBad (l.getD j Xt.zero)=false))∧Owl.Own [] w w' []) (fun k=>l.length-k) 0 ⟨⟨Nat.zero_le _,fun j h=>by omega⟩,H0⟩ ⟨rfl,rfl,rfl,rfl,trivial⟩ ?_)
 rintro k w1 ⟨⟨hk1,hok⟩,H1⟩
 show WC _ _ _ _ _ [(0,lv),(1,(.func (.func 136) #[] #[])),(7,(vN l.length)),(8,(vN k))] _
 refine ws<|wo (op_lssN rfl rfl<|wn<|WC.seq (wC (decide (k<l.length)) (fun hb2=>?_) (fun hb2=>?_)))
 ·
  have hc2:=dT hb2
  refine WC.skip<|WQ.next<|WC.seq<|WC.block<|ws<|wm rfl<|wa rfl<|wn<|ws<|wm rfl<|wm rfl<|wm rfl<|wo (op_indexAddr Tryz.underlying37 Fa.I207 rfl (H1.arr hA) rfl (by omega)<|wo (op_loadSP (vs:=xtc (l.getD k Xt.zero)) rfl (Arr.atsF (H1.arr hA) (fun _=>rfl) (by decide) Xt.zero (by omega)) Tryz.underlying207 rfl Fa.I207 rfl<|wo (op_call (f:=136) rfl Fa.C136 rfl ((xtbad_ok (l.getD k Xt.zero) _).mono (fun e w3 hq=>?_)))))
  obtain ⟨rfl,hf3⟩:=hq
  refine ⟨_,rfl,?_⟩
  have H3:=H1.fr' hf3
  refine wn (wC (xtBad (l.getD k Xt.zero)) (fun hb4=>?_) (fun hb4=>?_))
  ·
   exact ws<|wm rfl<|wa rfl<|wn<|WC.ret<|WQ.inRet<|WQ.thenRet<|WQ.thenRet<|WQ.inRet<|WQ.thenRet<|WQ.out (.tmp rfl .nil) (⟨by rw [fidx_yes (d:=Xt.zero) (by omega) hok hb4]; rfl,H3.fr⟩)
  ·
   exact WC.skip<|WQ.inNormal<|WQ.next<|WC.region<|wo (op_addN (b:=1) rfl rfl (by omega)<|wm rfl<|WL.nil<|WQ.round (k+1) ⟨⟨by omega,allPrev hok hb4⟩,H3⟩ ⟨rfl,rfl,rfl,rfl,trivial⟩ (by omega))
 ·
  have hc2:=dF hb2
  exact WC.exit<|WQ.thenExit<|WQ.thenExit<|WQ.inHere<|WQ.next<|ws<|wa rfl<|wn<|WC.ret<|WQ.out (.tmp rfl .nil) (⟨by rw [fidx_no (d:=Xt.zero) (fun j hj=>hok j (by omega))]; rfl,H1.fr⟩)
theorem idx16_ok (lv:Value) (l:List UInt16) (y:UInt16) (w:World) (hA:Arr w lv 1 l.length (List.map vU16 l)) (hn:l.length<2^47) :
  Calls Tryz.prog 178 #[lv,(vU16 y)] w (fun e w'=>e=.returned (vI (fidx (u16Is y) l))∧Fr [] w w'):=by
 refine enter (args:=[lv,(vU16 y)]) Tryz.func178 rfl rfl ?_
 have H0:Owl.Own [] w w []:=Own.start w []
 refine ws<|wa rfl<|wn<|WC.seq<|ws<|wm rfl<|wo (op_lenA Tryz.underlying38 rfl (H0.arr hA)<|wm rfl<|wn<|WC.block<|WC.loop (α:=Nat) (fun k=>[(0,lv),(1,(vU16 y)),(7,(vN l.length)),(8,(vN k))]) (fun k w'=>(k≤l.length∧(∀j,j<k→(u16Is y) (l.getD j 0)=false))∧Owl.Own [] w w' []) (fun k=>l.length-k) 0 ⟨⟨Nat.zero_le _,fun j h=>by omega⟩,H0⟩ ⟨rfl,rfl,rfl,rfl,trivial⟩ ?_)
 rintro k w1 ⟨⟨hk1,hok⟩,H1⟩
 show WC _ _ _ _ _ [(0,lv),(1,(vU16 y)),(7,(vN l.length)),(8,(vN k))] _
 refine ws<|wo (op_lssN rfl rfl<|wn<|WC.seq (wC (decide (k<l.length)) (fun hb2=>?_) (fun hb2=>?_)))
 ·
  have hc2:=dT hb2
  refine WC.skip<|WQ.next<|WC.seq<|WC.block<|ws<|wm rfl<|wa rfl<|wn<|ws<|wm rfl<|wm rfl<|wm rfl<|wo (op_indexAddr1 Tryz.underlying38 Fa.I203 rfl (H1.arr hA) rfl (by omega)<|wo (op_load rfl ((H1.arr hA).at (get_map vU16 0 (Arr.ltM (H1.arr hA) (by omega)))) Tryz.underlying203 rfl<|wo (op_eqlU16 rfl rfl<|wn (wC (decide (y=(l.getD k 0))) (fun hb3=>?_) (fun hb3=>?_)))))
  ·
   have hc3:=dT hb3
   exact ws<|wm rfl<|wa rfl<|wn<|WC.ret<|WQ.inRet<|WQ.thenRet<|WQ.thenRet<|WQ.inRet<|WQ.thenRet<|WQ.out (.tmp rfl .nil) (⟨by rw [fidx_yes (d:=0) (by omega) hok hb3]; rfl,H1.fr⟩)
  ·
   have hc3:=dF hb3
   exact WC.skip<|WQ.inNormal<|WQ.next<|WC.region<|wo (op_addN (b:=1) rfl rfl (by omega)<|wm rfl<|WL.nil<|WQ.round (k+1) ⟨⟨by omega,allPrev hok hb3⟩,H1⟩ ⟨rfl,rfl,rfl,rfl,trivial⟩ (by omega))
 ·
  have hc2:=dF hb2
  exact WC.exit<|WQ.thenExit<|WQ.thenExit<|WQ.inHere<|WQ.next<|ws<|wa rfl<|wn<|WC.ret<|WQ.out (.tmp rfl .nil) (⟨by rw [fidx_no (d:=0) (fun j hj=>hok j (by omega))]; rfl,H1.fr⟩)
theorem idx8_ok (lv:Value) (l:List UInt8) (y:UInt8) (w:World) (hA:Arr w lv 1 l.length (List.map vU8 l)) (hn:l.length<2^47) :
  Calls Tryz.prog 179 #[lv,(vU8 y)] w (fun e w'=>e=.returned (vI (fidx (u8Is y) l))∧Fr [] w w'):=by
 refine enter (args:=[lv,(vU8 y)]) Tryz.func179 rfl rfl ?_
 have H0:Owl.Own [] w w []:=Own.start w []
 refine ws<|wa rfl<|wn<|WC.seq<|ws<|wm rfl<|wo (op_lenA Tryz.underlying114 rfl (H0.arr hA)<|wm rfl<|wn<|WC.block<|WC.loop (α:=Nat) (fun k=>[(0,lv),(1,(vU8 y)),(7,(vN l.length)),(8,(vN k))]) (fun k w'=>(k≤l.length∧(∀j,j<k→(u8Is y) (l.getD j 0)=false))∧Owl.Own [] w w' []) (fun k=>l.length-k) 0 ⟨⟨Nat.zero_le _,fun j h=>by omega⟩,H0⟩ ⟨rfl,rfl,rfl,rfl,trivial⟩ ?_)
 rintro k w1 ⟨⟨hk1,hok⟩,H1⟩
 show WC _ _ _ _ _ [(0,lv),(1,(vU8 y)),(7,(vN l.length)),(8,(vN k))] _
 refine ws<|wo (op_lssN rfl rfl<|wn<|WC.seq (wC (decide (k<l.length)) (fun hb2=>?_) (fun hb2=>?_)))
 ·
  have hc2:=dT hb2
  refine WC.skip<|WQ.next<|WC.seq<|WC.block<|ws<|wm rfl<|wa rfl<|wn<|ws<|wm rfl<|wm rfl<|wm rfl<|wo (op_indexAddr1 Tryz.underlying114 Fa.I5 rfl (H1.arr hA) rfl (by omega)<|wo (op_load rfl ((H1.arr hA).at (get_map vU8 0 (Arr.ltM (H1.arr hA) (by omega)))) Tryz.underlying5 rfl<|wo (op_eqlU8 rfl rfl<|wn (wC (decide (y=(l.getD k 0))) (fun hb3=>?_) (fun hb3=>?_)))))
  ·
   have hc3:=dT hb3
   exact ws<|wm rfl<|wa rfl<|wn<|WC.ret<|WQ.inRet<|WQ.thenRet<|WQ.thenRet<|WQ.inRet<|WQ.thenRet<|WQ.out (.tmp rfl .nil) (⟨by rw [fidx_yes (d:=0) (by omega) hok hb3]; rfl,H1.fr⟩)
  ·
   have hc3:=dF hb3
   exact WC.skip<|WQ.inNormal<|WQ.next<|WC.region<|wo (op_addN (b:=1) rfl rfl (by omega)<|wm rfl<|WL.nil<|WQ.round (k+1) ⟨⟨by omega,allPrev hok hb3⟩,H1⟩ ⟨rfl,rfl,rfl,rfl,trivial⟩ (by omega))
 ·
  have hc2:=dF hb2
  exact WC.exit<|WQ.thenExit<|WQ.thenExit<|WQ.inHere<|WQ.next<|ws<|wa rfl<|wn<|WC.ret<|WQ.out (.tmp rfl .nil) (⟨by rw [fidx_no (d:=0) (fun j hj=>hok j (by omega))]; rfl,H1.fr⟩)
theorem conX_ok (lv:Value) (l:List Xt) (w:World) (hA:Arr w lv 2 l.length (List.flatMap xtc l)) (hn:l.length<2^47) :
  Calls Tryz.prog 135 #[lv,(.func (.func 136) #[] #[])] w (fun e w'=>e=.returned (.bool (l.any xtBad))∧Fr [] w w'):=by
 refine enter (args:=[lv,(.func (.func 136) #[] #[])]) Tryz.func135 rfl rfl ?_
 have H0:Owl.Own [] w w []:=Own.start w []
 refine ws<|wa rfl<|wn<|ws<|wm rfl<|wm rfl<|wo (op_callF Fa.C177 rfl ((idxX_ok _ l _ (H0.arr hA) (by omega)).mono (fun e w1 hq=>?_)))
 obtain ⟨rfl,hf1⟩:=hq
 refine ⟨_,rfl,?_⟩
 have H1:=H0.fr' hf1
 exact wo (op_geqI (b:=(0:Int)) rfl rfl<|wa rfl<|wn<|WC.ret<|WQ.out (.tmp rfl .nil) (⟨by rw [←fidx_any]; rfl,H1.fr⟩))
theorem con16_ok (lv:Value) (l:List UInt16) (y:UInt16) (w:World) (hA:Arr w lv 1 l.length (List.map vU16 l)) (hn:l.length<2^47) :
  Calls Tryz.prog 141 #[lv,(vU16 y)] w (fun e w'=>e=.returned (.bool (l.any (u16Is y)))∧Fr [] w w'):=by
 refine enter (args:=[lv,(vU16 y)]) Tryz.func141 rfl rfl ?_
 have H0:Owl.Own [] w w []:=Own.start w []
 refine ws<|wa rfl<|wn<|ws<|wm rfl<|wm rfl<|wo (op_callF Fa.C178 rfl ((idx16_ok _ l y _ (H0.arr hA) (by omega)).mono (fun e w1 hq=>?_)))
 obtain ⟨rfl,hf1⟩:=hq
 refine ⟨_,rfl,?_⟩
 have H1:=H0.fr' hf1
 exact wo (op_geqI (b:=(0:Int)) rfl rfl<|wa rfl<|wn<|WC.ret<|WQ.out (.tmp rfl .nil) (⟨by rw [←fidx_any]; rfl,H1.fr⟩))
theorem con8_ok (lv:Value) (l:List UInt8) (y:UInt8) (w:World) (hA:Arr w lv 1 l.length (List.map vU8 l)) (hn:l.length<2^47) :
  Calls Tryz.prog 142 #[lv,(vU8 y)] w (fun e w'=>e=.returned (.bool (l.any (u8Is y)))∧Fr [] w w'):=by
 refine enter (args:=[lv,(vU8 y)]) Tryz.func142 rfl rfl ?_
 have H0:Owl.Own [] w w []:=Own.start w []
 refine ws<|wa rfl<|wn<|ws<|wm rfl<|wm rfl<|wo (op_callF Fa.C179 rfl ((idx8_ok _ l y _ (H0.arr hA) (by omega)).mono (fun e w1 hq=>?_)))
 obtain ⟨rfl,hf1⟩:=hq
 refine ⟨_,rfl,?_⟩
 have H1:=H0.fr' hf1
 exact wo (op_geqI (b:=(0:Int)) rfl rfl<|wa rfl<|wn<|WC.ret<|WQ.out (.tmp rfl .nil) (⟨by rw [←fidx_any]; rfl,H1.fr⟩))
theorem risX_ok (lv:Value) (l:List Xt) (w:World) (hA:Arr w lv 2 l.length (List.flatMap xtc l)) (hn:l.length<2^47) :
  Calls Tryz.prog 137 #[lv,(.func (.func 138) #[] #[])] w (fun e w'=>e=.returned (.bool (ris xtLt l))∧Fr [] w w'):=by
 refine enter (args:=[lv,(.func (.func 138) #[] #[])]) Tryz.func137 rfl rfl ?_
 have H0:Owl.Own [] w w []:=Own.start w []
 refine ws<|wa rfl<|wn<|WC.seq<|ws<|wm rfl<|wo (op_lenA Tryz.underlying37 rfl (H0.arr hA)<|wo (op_subI (a:=((l.length:Nat):Int)) (b:=((1:Nat):Int)) rfl rfl (by omega)<|wm rfl<|wn<|WC.block<|WC.loop (α:=Nat) (fun k=>[(0,lv),(1,(.func (.func 138) #[] #[])),(8,(vI (((l.length:Nat):Int)-((1:Nat):Int)))),(9,(vN k))]) (fun k w'=>(k≤l.length∧(∀j,j<k→xtLt (l.getD j Xt.zero) (l.getD (j+1) Xt.zero)=true))∧Owl.Own [] w w' []) (fun k=>l.length-k) 0 ⟨⟨Nat.zero_le _,fun j h=>by omega⟩,H0⟩ ⟨rfl,rfl,rfl,rfl,trivial⟩ ?_))
 rintro k w1 ⟨⟨hk1,hok⟩,H1⟩
 show WC _ _ _ _ _ [(0,lv),(1,(.func (.func 138) #[] #[])),(8,(vI (((l.length:Nat):Int)-((1:Nat):Int)))),(9,(vN k))] _
 refine ws<|wo (op_lssI rfl rfl<|wn<|WC.seq (wC (decide ((k:Int)<(((l.length:Nat):Int)-((1:Nat):Int)))) (fun hb2=>?_) (fun hb2=>?_)))
 ·
  have hc2:=dT hb2
  refine WC.skip<|WQ.next<|WC.seq<|WC.block<|ws<|wm rfl<|wa rfl<|wn<|WC.seq<|WC.draw 12 Fa.M H1 (mh rfl<|mh rfl<|mh rfl<|oh (fun w1 H1=>op_indexAddr Tryz.underlying37 Fa.I207 rfl (H1.arr hA) rfl (by omega) zr)<|oh (fun w1 H1=>op_loadSP (vs:=xtc (l.getD k Xt.zero)) rfl (Arr.atsF (H1.arr hA) (fun _=>rfl) (by decide) Xt.zero (by omega)) Tryz.underlying207 rfl Fa.I207 rfl zr)<|mh rfl<|mh rfl<|oh (fun w1 H1=>op_addN (b:=1) rfl rfl (by omega) zr)<|oh (fun w1 H1=>op_indexAddr Tryz.underlying37 Fa.I207 rfl (H1.arr hA) rfl (by omega) zr)<|oh (fun w1 H1=>op_loadSP (vs:=xtc (l.getD (k+1) Xt.zero)) rfl (Arr.atsF (H1.arr hA) (fun _=>rfl) (by decide) Xt.zero (by omega)) Tryz.underlying207 rfl Fa.I207 rfl zr)<|oh (fun w1 H1=>op_call (f:=138) rfl Fa.C138 rfl ((xtlt_ok (l.getD k Xt.zero) (l.getD (k+1) Xt.zero) _).mono (fun e w2 hq=>⟨_,hq.1,rfl,hq.2⟩)))<|oh (fun w1 H1=>op_not rfl zr)  HW.nil) (by kernel_rfl) ?_
  intro β4 w4 H4
  refine wn (wC (!(xtLt (l.getD k Xt.zero) (l.getD (k+1) Xt.zero))) (fun hb5=>?_) (fun hb5=>?_))
  ·
   have hn5:=(Bool.not_eq_true' _).mp hb5
   exact ws<|wa rfl<|wn<|WC.ret<|WQ.inRet<|WQ.thenRet<|WQ.thenRet<|WQ.inRet<|WQ.thenRet<|WQ.out (.tmp rfl .nil) (⟨by rw [ris_no (d:=Xt.zero) (k:=k) (by omega) (by simpa using hb5)]; rfl,H4.fr⟩)
  ·
   have hn5:=(Bool.not_eq_false' _).mp hb5
   exact WC.skip<|WQ.inNormal<|WQ.next<|WC.region<|wo (op_addN (b:=1) rfl rfl (by omega)<|wm rfl<|WL.nil<|WQ.round (k+1) ⟨⟨by omega,allPrev hok (by simpa using hb5)⟩,H4⟩ ⟨rfl,rfl,rfl,rfl,trivial⟩ (by omega))
 ·
  have hc2:=dF hb2
  exact WC.exit<|WQ.thenExit<|WQ.thenExit<|WQ.inHere<|WQ.next<|ws<|wa rfl<|wn<|WC.ret<|WQ.out (.tmp rfl .nil) (⟨by rw [ris_yes (d:=Xt.zero) (fun j hj=>hok j (by omega))]; rfl,H1.fr⟩)
theorem ris16_ok (lv:Value) (l:List UInt16) (w:World) (hA:Arr w lv 1 l.length (List.map vU16 l)) (hn:l.length<2^47) :
  Calls Tryz.prog 139 #[lv,(.func (.func 140) #[] #[])] w (fun e w'=>e=.returned (.bool (ris u16Lt l))∧Fr [] w w'):=by
 refine enter (args:=[lv,(.func (.func 140) #[] #[])]) Tryz.func139 rfl rfl ?_
 have H0:Owl.Own [] w w []:=Own.start w []
 refine ws<|wa rfl<|wn<|WC.seq<|ws<|wm rfl<|wo (op_lenA Tryz.underlying38 rfl (H0.arr hA)<|wo (op_subI (a:=((l.length:Nat):Int)) (b:=((1:Nat):Int)) rfl rfl (by omega)<|wm rfl<|wn<|WC.block<|WC.loop (α:=Nat) (fun k=>[(0,lv),(1,(.func (.func 140) #[] #[])),(8,(vI (((l.length:Nat):Int)-((1:Nat):Int)))),(9,(vN k))]) (fun k w'=>(k≤l.length∧(∀j,j<k→u16Lt (l.getD j 0) (l.getD (j+1) 0)=true))∧Owl.Own [] w w' []) (fun k=>l.length-k) 0 ⟨⟨Nat.zero_le _,fun j h=>by omega⟩,H0⟩ ⟨rfl,rfl,rfl,rfl,trivial⟩ ?_))
 rintro k w1 ⟨⟨hk1,hok⟩,H1⟩
 show WC _ _ _ _ _ [(0,lv),(1,(.func (.func 140) #[] #[])),(8,(vI (((l.length:Nat):Int)-((1:Nat):Int)))),(9,(vN k))] _
 refine ws<|wo (op_lssI rfl rfl<|wn<|WC.seq (wC (decide ((k:Int)<(((l.length:Nat):Int)-((1:Nat):Int)))) (fun hb2=>?_) (fun hb2=>?_)))
 ·
  have hc2:=dT hb2
  refine WC.skip<|WQ.next<|WC.seq<|WC.block<|ws<|wm rfl<|wa rfl<|wn<|WC.seq<|WC.draw 12 Fa.M H1 (mh rfl<|mh rfl<|mh rfl<|oh (fun w1 H1=>op_indexAddr1 Tryz.underlying38 Fa.I203 rfl (H1.arr hA) rfl (by omega) zr)<|oh (fun w1 H1=>op_load rfl ((H1.arr hA).at (get_map vU16 0 (Arr.ltM (H1.arr hA) (by omega)))) Tryz.underlying203 rfl zr)<|mh rfl<|mh rfl<|oh (fun w1 H1=>op_addN (b:=1) rfl rfl (by omega) zr)<|oh (fun w1 H1=>op_indexAddr1 Tryz.underlying38 Fa.I203 rfl (H1.arr hA) rfl (by omega) zr)<|oh (fun w1 H1=>op_load rfl ((H1.arr hA).at (get_map vU16 0 (Arr.ltM (H1.arr hA) (by omega)))) Tryz.underlying203 rfl zr)<|oh (fun w1 H1=>op_call (f:=140) rfl Fa.C140 rfl ((u16lt_ok (l.getD k 0) (l.getD (k+1) 0) _).mono (fun e w2 hq=>⟨_,hq.1,rfl,hq.2⟩)))<|oh (fun w1 H1=>op_not rfl zr)  HW.nil) (by kernel_rfl) ?_
  intro β4 w4 H4
  refine wn (wC (!(u16Lt (l.getD k 0) (l.getD (k+1) 0))) (fun hb5=>?_) (fun hb5=>?_))
  ·
   have hn5:=(Bool.not_eq_true' _).mp hb5
   exact ws<|wa rfl<|wn<|WC.ret<|WQ.inRet<|WQ.thenRet<|WQ.thenRet<|WQ.inRet<|WQ.thenRet<|WQ.out (.tmp rfl .nil) (⟨by rw [ris_no (d:=0) (k:=k) (by omega) (by simpa using hb5)]; rfl,H4.fr⟩)
  ·
   have hn5:=(Bool.not_eq_false' _).mp hb5
   exact WC.skip<|WQ.inNormal<|WQ.next<|WC.region<|wo (op_addN (b:=1) rfl rfl (by omega)<|wm rfl<|WL.nil<|WQ.round (k+1) ⟨⟨by omega,allPrev hok (by simpa using hb5)⟩,H4⟩ ⟨rfl,rfl,rfl,rfl,trivial⟩ (by omega))
 ·
  have hc2:=dF hb2
  exact WC.exit<|WQ.thenExit<|WQ.thenExit<|WQ.inHere<|WQ.next<|ws<|wa rfl<|wn<|WC.ret<|WQ.out (.tmp rfl .nil) (⟨by rw [ris_yes (d:=0) (fun j hj=>hok j (by omega))]; rfl,H1.fr⟩)
theorem dcheck_ok (pg:UInt32) (ev pv:Value) (xs:List Xt) (ps:List UInt16) (con:Bool) (w:World) (hE:Arr w ev 2 xs.length (List.flatMap xtc xs)) (hP:Arr w pv 1 ps.length (List.map vU16 ps)) (hn:xs.length<2^47) (hm:ps.length<2^47) :
  Calls Tryz.prog 90 #[(.agg #[(vU32 pg),ev,pv,(.bool con)])] w (fun e w'=>e=.returned (vN (mfE pg xs ps))∧Fr [] w w'):=by
 refine enter (args:=[(.agg #[(vU32 pg),ev,pv,(.bool con)])]) Tryz.func90 rfl rfl ?_
 have H0:Owl.Own [] w w []:=Own.start w []
 refine ws<|wo (op_box H0 rfl rfl (fun b1 w1 H1=>(wa rfl<|wn<|ws<|wo (op_fieldAddr rfl Fa.F40_1<|wo (op_load rfl (H1.cell (i:=0) rfl rfl) Tryz.underlying37 rfl<|wo (op_callF Fa.C135 rfl ((conX_ok _ xs _ (H1.arr hE) (by omega)).mono (fun e w2 hq=>?_))))))))
 obtain ⟨rfl,hf2⟩:=hq
 refine ⟨_,rfl,?_⟩
 have H2:=H1.fr' hf2
 refine wa rfl<|wn<|WC.seq<|ws<|wm rfl<|wm rfl (wV 8 (xs.any xtBad) (fun hb3=>?_) (fun hb3=>?_))
 ·
  exact wN hb3<|wN hb3<|wN hb3<|wN hb3<|wo (op_pickT rfl hb3 rfl<|wm rfl<|wN rfl<|wN rfl<|wN rfl<|wN rfl<|wo (op_pickT rfl rfl rfl<|wm rfl<|wN rfl<|wN rfl<|wN rfl<|wo (op_pickT rfl rfl rfl<|wm rfl<|wN rfl<|wN rfl<|wN rfl<|wN rfl<|wo (op_pickT rfl rfl rfl<|wm rfl<|wN rfl<|wN rfl<|wN rfl<|wo (op_pickT rfl rfl rfl<|wn<|WC.yes rfl rfl<|ws<|wa rfl<|wn<|WC.ret<|WQ.thenRet<|WQ.out (.tmp rfl .nil) (⟨by (rw [mfE,mfMay,hb3])<;>rfl,H2.fr⟩))))))
 ·
  refine wY hb3 (op_fieldAddr rfl Fa.F40_1<|wY hb3 (op_load rfl (H2.cell (i:=0) rfl rfl) Tryz.underlying37 rfl<|wY hb3 (op_callF Fa.C137 rfl ((risX_ok _ xs _ (H2.arr hE) (by omega)).mono (fun e w4 hq=>?_)))))
  obtain ⟨rfl,hf4⟩:=hq
  refine ⟨_,rfl,?_⟩
  have H4:=H2.fr' hf4
  refine wY hb3 (op_not rfl<|wo (op_pickF rfl hb3 rfl<|wm rfl (wV 14 (!(ris xtLt xs)) (fun hb5=>?_) (fun hb5=>?_))))
  ·
   have hn5:=(Bool.not_eq_true' _).mp hb5
   exact wN hb5<|wN hb5<|wN hb5<|wN hb5<|wo (op_pickT rfl hb5 rfl<|wm rfl<|wN rfl<|wN rfl<|wN rfl<|wo (op_pickT rfl rfl rfl<|wm rfl<|wN rfl<|wN rfl<|wN rfl<|wN rfl<|wo (op_pickT rfl rfl rfl<|wm rfl<|wN rfl<|wN rfl<|wN rfl<|wo (op_pickT rfl rfl rfl<|wn<|WC.yes rfl rfl<|ws<|wa rfl<|wn<|WC.ret<|WQ.thenRet<|WQ.out (.tmp rfl .nil) (⟨by (rw [mfE,mfMay,hb3,hn5])<;>rfl,H4.fr⟩)))))
  ·
   have hn5:=(Bool.not_eq_false' _).mp hb5
   refine wY hb5 (op_fieldAddr rfl Fa.F40_2<|wY hb5 (op_load rfl (H4.cell (i:=0) rfl rfl) Tryz.underlying38 rfl<|wY hb5 (op_callF Fa.C139 rfl ((ris16_ok _ ps _ (H4.arr hP) (by omega)).mono (fun e w6 hq=>?_)))))
   obtain ⟨rfl,hf6⟩:=hq
   refine ⟨_,rfl,?_⟩
   have H6:=H4.fr' hf6
   refine wY hb5 (op_not rfl<|wo (op_pickF rfl hb5 rfl<|wm rfl (wV 20 (!(ris u16Lt ps)) (fun hb7=>?_) (fun hb7=>?_))))
   ·
    have hn7:=(Bool.not_eq_true' _).mp hb7
    exact wN hb7<|wN hb7<|wN hb7<|wo (op_pickT rfl hb7 rfl<|wm rfl<|wN rfl<|wN rfl<|wN rfl<|wN rfl<|wo (op_pickT rfl rfl rfl<|wm rfl<|wN rfl<|wN rfl<|wN rfl<|wo (op_pickT rfl rfl rfl<|wn<|WC.yes rfl rfl<|ws<|wa rfl<|wn<|WC.ret<|WQ.thenRet<|WQ.out (.tmp rfl .nil) (⟨by (rw [mfE,mfMay,hb3,hn5,hn7])<;>rfl,H6.fr⟩))))
   ·
    have hn7:=(Bool.not_eq_false' _).mp hb7
    refine wY hb7 (op_fieldAddr rfl Fa.F40_2<|wY hb7 (op_load rfl (H6.cell (i:=0) rfl rfl) Tryz.underlying38 rfl<|wY hb7 (op_callF Fa.C141 rfl ((con16_ok _ ps 0 _ (H6.arr hP) (by omega)).mono (fun e w8 hq=>?_)))))
    obtain ⟨rfl,hf8⟩:=hq
    refine ⟨_,rfl,?_⟩
    have H8:=H6.fr' hf8
    refine wo (op_pickF rfl hb7 rfl<|wm rfl (wV 25 (ps.any (u16Is 0)) (fun hb9=>?_) (fun hb9=>?_)))
    ·
     exact wN hb9<|wN hb9<|wN hb9<|wN hb9<|wo (op_pickT rfl hb9 rfl<|wm rfl<|wN rfl<|wN rfl<|wN rfl<|wo (op_pickT rfl rfl rfl<|wn<|WC.yes rfl rfl<|ws<|wa rfl<|wn<|WC.ret<|WQ.thenRet<|WQ.out (.tmp rfl .nil) (⟨by (rw [mfE,mfMay,hb3,hn5,hn7,hb9])<;>rfl,H8.fr⟩)))
    ·
     refine wY hb9 (op_fieldAddr rfl Fa.F40_2<|wY hb9 (op_load rfl (H8.cell (i:=0) rfl rfl) Tryz.underlying38 rfl<|wY hb9 (op_lenA Tryz.underlying38 rfl (H8.arr hP)<|wY hb9 (op_gtrN (b:=16) rfl rfl<|wo (op_pickF rfl hb9 rfl<|wm rfl (wV 31 (decide (ps.length>16)) (fun hb10=>?_) (fun hb10=>?_)))))))
     ·
      have hc10:=dT hb10
      exact wN hb10<|wN hb10<|wN hb10<|wo (op_pickT rfl hb10 rfl<|wn<|WC.yes rfl rfl<|ws<|wa rfl<|wn<|WC.ret<|WQ.thenRet<|WQ.out (.tmp rfl .nil) (⟨by (rw [mfE,mfMay,hb3,hn5,hn7,hb9,hb10])<;>rfl,H8.fr⟩))
     ·
      have hc10:=dF hb10
      refine wY hb10 (op_fieldAddr rfl Fa.F40_0<|wY hb10 (op_load rfl (H8.cell (i:=0) rfl rfl) Tryz.underlying22 rfl<|wY hb10 (op_gtrU32 (b:=1024) rfl rfl<|wo (op_pickF rfl hb10 rfl<|wn (wC (decide (pg>(1024:UInt32))) (fun hb11=>?_) (fun hb11=>?_))))))
      ·
       have hc11:=dT hb11
       exact ws<|wa rfl<|wn<|WC.ret<|WQ.thenRet<|WQ.out (.tmp rfl .nil) (⟨by (rw [mfE,mfMay,hb3,hn5,hn7,hb9,hb10,hb11])<;>rfl,H8.fr⟩)
      ·
       have hc11:=dF hb11
       exact WC.skip<|WQ.next<|ws<|wa rfl<|wn<|WC.ret<|WQ.out (.tmp rfl .nil) (⟨by (rw [mfE,mfMay,hb3,hn5,hn7,hb9,hb10,hb11])<;>rfl,H8.fr⟩)
theorem none_ok (c:Nat) (pg:UInt32) (hv:Value) (he:List UInt32) (mb cn:Nat) (gs:List Gr) (mp:UInt32) (ev pv:Value) (xs:List Xt) (ps:List UInt16) (con:Bool) (w:World) (hC:cellsAt w c [(vU32 pg),hv,(.map (some mb))]) (hH:Arr w hv 1 he.length (List.map vU32 he)) (hM:w.heap[mb]?=some (mP .i64 (List.map Gr.me gs) cn)) (hG:BsOK 199 Gr.cells Gr.b gs w) (hS:grD.list.ok w gs) (hME:MEok (List.map Gr.me gs) cn) (hE:Arr w ev 2 xs.length (List.flatMap xtc xs)) (hP:Arr w pv 1 ps.length (List.map vU16 ps)) (hn:xs.length<2^40) (hm:ps.length<2^40) (hhe:he.length<2^32) :
  Calls Tryz.prog 208 #[(ptr c 0),(.agg #[(vU32 mp),ev,pv,(.bool con)])] w (fun e w'=>e=.returned (vN (noneE he xs))∧Fr [] w w'):=by
 refine enter (args:=[(ptr c 0),(.agg #[(vU32 mp),ev,pv,(.bool con)])]) Tryz.func208 rfl rfl ?_
 have H0:Owl.Own [] w w [Ent.bo c [(vU32 pg),hv,(.map (some mb))],Ent.ar hv 1 he.length (List.map vU32 he),Ent.mo .i64 mb (List.map Gr.me gs) cn,Ent.bsO 199 Gr.cells Gr.b gs,Ent.dp grD.list gs]:=((((((Own.start w []).oldB hC).oldA hH).mpOld hM).bsOld hG).dpOld hS)
 refine ws<|wo (op_box H0 rfl rfl (fun b1 w1 H1=>(wa rfl<|wn<|WC.seq<|ws<|wo (op_fieldAddr rfl Fa.F40_1<|wo (op_load rfl (H1.cell (i:=5) rfl rfl) Tryz.underlying37 rfl<|wo (op_lenA Tryz.underlying37 rfl (H1.arr hE)<|wm rfl<|wn<|WC.block<|WC.loop (α:=Nat) (fun k=>[(0,(ptr c 0)),(8,ev),(9,(vN xs.length)),(10,(vN k))]) (fun k w'=>(k≤xs.length∧(∀j,j<k→¬(xs.getD j Xt.zero).id.toNat≥he.length))∧Owl.Own [] w w' [Ent.bo c [(vU32 pg),hv,(.map (some mb))],Ent.ar hv 1 he.length (List.map vU32 he),Ent.mo .i64 mb (List.map Gr.me gs) cn,Ent.bsO 199 Gr.cells Gr.b gs,Ent.dp grD.list gs,.blk b1 [(vU32 mp),ev,pv,(.bool con)] 40]) (fun k=>xs.length-k) 0 ⟨⟨Nat.zero_le _,fun j h=>by omega⟩,H1⟩ ⟨rfl,rfl,rfl,rfl,trivial⟩ ?_))))))
 rintro k w2 ⟨⟨hk1,hok⟩,H2⟩
 show WC _ _ _ _ _ [(0,(ptr c 0)),(8,ev),(9,(vN xs.length)),(10,(vN k))] _
 refine ws<|wo (op_lssN rfl rfl<|wn<|WC.seq (wC (decide (k<xs.length)) (fun hb3=>?_) (fun hb3=>?_)))
 ·
  have hc3:=dT hb3
  refine WC.skip<|WQ.next<|WC.seq<|WC.block<|ws<|wo (op_indexAddr Tryz.underlying37 Fa.I207 rfl (H2.arr hE) rfl (by omega)<|wo (op_loadSP (vs:=xtc (xs.getD k Xt.zero)) rfl (Arr.atsF (H2.arr hE) (fun _=>rfl) (by decide) Xt.zero (by omega)) Tryz.underlying207 rfl Fa.I207 rfl<|wo (op_alloc H2 Fa.I207 (fun b4 w4 H4=>(wo (op_storeBW (i:=6) H4 rfl rfl rfl rfl rfl Fa.I207 (fun w5 H5=>(wn<|WC.seq<|WC.draw 10 Fa.M H5 (oh (fun w1 H1=>op_fieldAddr rfl Fa.F207_0 zr)<|oh (fun w1 H1=>op_load rfl (H1.cell (i:=6) rfl rfl) Tryz.underlying22 rfl zr)<|oh (fun w1 H1=>op_convU32N (hs:=Tryz.underlying22) (hd:=Tryz.underlying3) rfl zr)<|mh rfl<|oh (fun w1 H1=>op_nilCheck rfl zr)<|oh (fun w1 H1=>op_fieldAddr rfl Fa.F196_0 zr)<|oh (fun w1 H1=>op_fieldAddr rfl Fa.F75_1 zr)<|oh (fun w1 H1=>op_load rfl (H1.cellO (i:=0) rfl rfl) Tryz.underlying73 rfl zr)<|oh (fun w1 H1=>op_lenA Tryz.underlying73 rfl (H1.arrO (i:=1) rfl) zr)<|oh (fun w1 H1=>op_geqN rfl rfl zr)  HW.nil) (by kernel_rfl) ?_))))))))
  intro β6 w6 H6
  refine wn (wC (decide ((xs.getD k Xt.zero).id.toNat≥he.length)) (fun hb7=>?_) (fun hb7=>?_))
  ·
   have hc7:=dT hb7
   exact ws<|wa rfl<|wn<|WC.ret<|WQ.inRet<|WQ.thenRet<|WQ.thenRet<|WQ.inRet<|WQ.thenRet<|WQ.out (.tmp rfl .nil) (⟨by rw [noneE_yes (k:=k) (by omega) (dT hb7)]; rfl,H6.fr⟩)
  ·
   have hc7:=dF hb7
   exact WC.skip<|WQ.inNormal<|WQ.next<|WC.region<|wo (op_addN (b:=1) rfl rfl (by omega)<|wm rfl<|WL.nil<|WQ.round (k+1) ⟨⟨by omega,fun j h=>by rcases Nat.lt_or_ge j k with h9 | h9; exact hok j h9; rw [show j=k by omega]; exact dF hb7⟩,(H6.take 6)⟩ ⟨rfl,rfl,rfl,rfl,trivial⟩ (by omega))
 ·
  have hc3:=dF hb3
  exact WC.exit<|WQ.thenExit<|WQ.thenExit<|WQ.inHere<|WQ.next<|ws<|wa rfl<|wn<|WC.ret<|WQ.out (.tmp rfl .nil) (⟨by rw [noneE_no (fun j hj=>hok j (by omega))]; rfl,H2.fr⟩)
theorem long_ok (c:Nat) (pg:UInt32) (hv:Value) (he:List UInt32) (mb cn:Nat) (gs:List Gr) (mp:UInt32) (ev pv:Value) (xs:List Xt) (ps:List UInt16) (con:Bool) (w:World) (hC:cellsAt w c [(vU32 pg),hv,(.map (some mb))]) (hH:Arr w hv 1 he.length (List.map vU32 he)) (hM:w.heap[mb]?=some (mP .i64 (List.map Gr.me gs) cn)) (hG:BsOK 199 Gr.cells Gr.b gs w) (hS:grD.list.ok w gs) (hME:MEok (List.map Gr.me gs) cn) (hE:Arr w ev 2 xs.length (List.flatMap xtc xs)) (hP:Arr w pv 1 ps.length (List.map vU16 ps)) (hn:xs.length<2^40) (hm:ps.length<2^40) (hhe:he.length<2^32) :
  Calls Tryz.prog 209 #[(ptr c 0),(.agg #[(vU32 mp),ev,pv,(.bool con)])] w (fun e w'=>e=.returned (vN (longE he xs))∧Fr [] w w'):=by
 refine enter (args:=[(ptr c 0),(.agg #[(vU32 mp),ev,pv,(.bool con)])]) Tryz.func209 rfl rfl ?_
 have H0:Owl.Own [] w w [Ent.bo c [(vU32 pg),hv,(.map (some mb))],Ent.ar hv 1 he.length (List.map vU32 he),Ent.mo .i64 mb (List.map Gr.me gs) cn,Ent.bsO 199 Gr.cells Gr.b gs,Ent.dp grD.list gs]:=((((((Own.start w []).oldB hC).oldA hH).mpOld hM).bsOld hG).dpOld hS)
 refine ws<|wo (op_box H0 rfl rfl (fun b1 w1 H1=>(wa rfl<|wn<|WC.seq<|ws<|wo (op_fieldAddr rfl Fa.F40_1<|wo (op_load rfl (H1.cell (i:=5) rfl rfl) Tryz.underlying37 rfl<|wo (op_lenA Tryz.underlying37 rfl (H1.arr hE)<|wm rfl<|wn<|WC.block<|WC.loop (α:=Nat) (fun k=>[(0,(ptr c 0)),(8,ev),(9,(vN xs.length)),(10,(vN k))]) (fun k w'=>(k≤xs.length∧(∀j,j<k→longX he (xs.getD j Xt.zero)=false))∧Owl.Own [] w w' [Ent.bo c [(vU32 pg),hv,(.map (some mb))],Ent.ar hv 1 he.length (List.map vU32 he),Ent.mo .i64 mb (List.map Gr.me gs) cn,Ent.bsO 199 Gr.cells Gr.b gs,Ent.dp grD.list gs,.blk b1 [(vU32 mp),ev,pv,(.bool con)] 40]) (fun k=>xs.length-k) 0 ⟨⟨Nat.zero_le _,fun j h=>by omega⟩,H1⟩ ⟨rfl,rfl,rfl,rfl,trivial⟩ ?_))))))
 rintro k w2 ⟨⟨hk1,hok⟩,H2⟩
 show WC _ _ _ _ _ [(0,(ptr c 0)),(8,ev),(9,(vN xs.length)),(10,(vN k))] _
 refine ws<|wo (op_lssN rfl rfl<|wn<|WC.seq (wC (decide (k<xs.length)) (fun hb3=>?_) (fun hb3=>?_)))
 ·
  have hc3:=dT hb3
  refine WC.skip<|WQ.next<|WC.seq<|WC.block<|ws<|wo (op_indexAddr Tryz.underlying37 Fa.I207 rfl (H2.arr hE) rfl (by omega)<|wo (op_loadSP (vs:=xtc (xs.getD k Xt.zero)) rfl (Arr.atsF (H2.arr hE) (fun _=>rfl) (by decide) Xt.zero (by omega)) Tryz.underlying207 rfl Fa.I207 rfl<|wo (op_alloc H2 Fa.I207 (fun b4 w4 H4=>(wo (op_storeBW (i:=6) H4 rfl rfl rfl rfl rfl Fa.I207 (fun w5 H5=>(wn<|WC.seq (wB (decide ((xs.getD k Xt.zero).id.toNat<he.length)) (fun hb6=>?_) (fun hb6=>?_))))))))))
  ·
   have hc6:=dT hb6
   refine WC.draw 24 Fa.M H5 (oh (fun w1 H1=>op_fieldAddr rfl Fa.F207_0 zr)<|oh (fun w1 H1=>op_load rfl (H1.cell (i:=6) rfl rfl) Tryz.underlying22 rfl zr)<|oh (fun w1 H1=>op_convU32N (hs:=Tryz.underlying22) (hd:=Tryz.underlying3) rfl zr)<|mh rfl<|oh (fun w1 H1=>op_nilCheck rfl zr)<|oh (fun w1 H1=>op_fieldAddr rfl Fa.F196_0 zr)<|oh (fun w1 H1=>op_fieldAddr rfl Fa.F75_1 zr)<|oh (fun w1 H1=>op_load rfl (H1.cellO (i:=0) rfl rfl) Tryz.underlying73 rfl zr)<|oh (fun w1 H1=>op_lenA Tryz.underlying73 rfl (H1.arrO (i:=1) rfl) zr)<|oh (fun w1 H1=>op_lssN rfl rfl zr)<|mh rfl<|yh hb6 (fun w1 H1=>op_fieldAddr rfl Fa.F207_1 zr)<|yh hb6 (fun w1 H1=>op_load rfl (H1.cell (i:=6) rfl rfl) Tryz.underlying22 rfl zr)<|yh hb6 (fun w1 H1=>op_move rfl zr)<|yh hb6 (fun w1 H1=>op_nilCheck rfl zr)<|yh hb6 (fun w1 H1=>op_fieldAddr rfl Fa.F196_0 zr)<|yh hb6 (fun w1 H1=>op_fieldAddr rfl Fa.F75_1 zr)<|yh hb6 (fun w1 H1=>op_load rfl (H1.cellO (i:=0) rfl rfl) Tryz.underlying73 rfl zr)<|yh hb6 (fun w1 H1=>op_fieldAddr rfl Fa.F207_0 zr)<|yh hb6 (fun w1 H1=>op_load rfl (H1.cell (i:=6) rfl rfl) Tryz.underlying22 rfl zr)<|yh hb6 (fun w1 H1=>op_indexAddr1 Tryz.underlying73 Fa.I22 rfl (H1.arrO (i:=1) rfl) rfl (by omega) zr)<|yh hb6 (fun w1 H1=>op_load rfl ((H1.arrO (i:=1) rfl).at (get_map vU32 0 (Arr.ltM (H1.arrO (i:=1) rfl) (by omega)))) Tryz.underlying22 rfl zr)<|yh hb6 (fun w1 H1=>op_gtrU32 rfl rfl zr)<|oh (fun w1 H1=>op_pickT rfl hb6 rfl zr)  HW.nil) (by kernel_rfl) ?_
   intro β7 w7 H7
   refine wn (wC (decide ((xs.getD k Xt.zero).bl>(he.getD (xs.getD k Xt.zero).id.toNat 0))) (fun hb8=>?_) (fun hb8=>?_))
   ·
    have hc8:=dT hb8
    exact ws<|wa rfl<|wn<|WC.ret<|WQ.inRet<|WQ.thenRet<|WQ.thenRet<|WQ.inRet<|WQ.thenRet<|WQ.out (.tmp rfl .nil) (⟨by rw [longE_yes (k:=k) (by omega) (by rw [longX,hb6,hb8]; rfl)]; rfl,H7.fr⟩)
   ·
    have hc8:=dF hb8
    exact WC.skip<|WQ.inNormal<|WQ.next<|WC.region<|wo (op_addN (b:=1) rfl rfl (by omega)<|wm rfl<|WL.nil<|WQ.round (k+1) ⟨⟨by omega,fun j h=>by rcases Nat.lt_or_ge j k with h9 | h9; exact hok j h9; rw [show j=k by omega]; exact (by rw [longX,hb6,hb8]; rfl)⟩,(H7.take 6)⟩ ⟨rfl,rfl,rfl,rfl,trivial⟩ (by omega))
  ·
   have hc6:=dF hb6
   refine WC.draw 24 Fa.M H5 (oh (fun w1 H1=>op_fieldAddr rfl Fa.F207_0 zr)<|oh (fun w1 H1=>op_load rfl (H1.cell (i:=6) rfl rfl) Tryz.underlying22 rfl zr)<|oh (fun w1 H1=>op_convU32N (hs:=Tryz.underlying22) (hd:=Tryz.underlying3) rfl zr)<|mh rfl<|oh (fun w1 H1=>op_nilCheck rfl zr)<|oh (fun w1 H1=>op_fieldAddr rfl Fa.F196_0 zr)<|oh (fun w1 H1=>op_fieldAddr rfl Fa.F75_1 zr)<|oh (fun w1 H1=>op_load rfl (H1.cellO (i:=0) rfl rfl) Tryz.underlying73 rfl zr)<|oh (fun w1 H1=>op_lenA Tryz.underlying73 rfl (H1.arrO (i:=1) rfl) zr)<|oh (fun w1 H1=>op_lssN rfl rfl zr)<|mh rfl<|nh hb6<|nh hb6<|nh hb6<|nh hb6<|nh hb6<|nh hb6<|nh hb6<|nh hb6<|nh hb6<|nh hb6<|nh hb6<|nh hb6<|oh (fun w1 H1=>op_pickF rfl hb6 rfl zr)  HW.nil) (by kernel_rfl) ?_
   intro β9 w9 H9
   exact wn<|WC.no rfl rfl<|WC.skip<|WQ.inNormal<|WQ.next<|WC.region<|wo (op_addN (b:=1) rfl rfl (by omega)<|wm rfl<|WL.nil<|WQ.round (k+1) ⟨⟨by omega,fun j h=>by rcases Nat.lt_or_ge j k with h9 | h9; exact hok j h9; rw [show j=k by omega]; exact (by rw [longX,hb6]; rfl)⟩,(H9.take 6)⟩ ⟨rfl,rfl,rfl,rfl,trivial⟩ (by omega))
 ·
  have hc3:=dF hb3
  exact WC.exit<|WQ.thenExit<|WQ.thenExit<|WQ.inHere<|WQ.next<|ws<|wa rfl<|wn<|WC.ret<|WQ.out (.tmp rfl .nil) (⟨by rw [longE_no (fun j hj=>hok j (by omega))]; rfl,H2.fr⟩)
theorem extent_ok (mp:UInt32) (ev pv:Value) (xs:List Xt) (ps:List UInt16) (con:Bool) (id:UInt32) (w:World) (hE:Arr w ev 2 xs.length (List.flatMap xtc xs)) (hP:Arr w pv 1 ps.length (List.map vU16 ps)) (hn:xs.length<2^40) (hm:ps.length<2^40) :
  Calls Tryz.prog 235 #[(.agg #[(vU32 mp),ev,pv,(.bool con)]),(vU32 id)] w (fun e w'=>e=.returned (.tuple #[.agg #[vU32 (extG xs id).id,vU32 (extG xs id).bl],.bool (hasX xs id)])∧Fr [] w w'):=by
 refine enter (args:=[(.agg #[(vU32 mp),ev,pv,(.bool con)]),(vU32 id)]) Tryz.func235 rfl rfl ?_
 have H0:Owl.Own [] w w []:=Own.start w []
 refine ws<|wo (op_box H0 rfl rfl (fun b1 w1 H1=>(wo (op_alloc H1 Fa.I207 (fun b2 w2 H2=>(wa rfl<|wn<|WC.seq<|ws<|wo (op_fieldAddr rfl Fa.F40_1<|wo (op_load rfl (H2.cell (i:=0) rfl rfl) Tryz.underlying37 rfl<|wo (op_lenA Tryz.underlying37 rfl (H2.arr hE)<|wm rfl<|wn<|WC.block<|WC.loop (α:=Nat) (fun k=>[(0,(.agg #[(vU32 mp),ev,pv,(.bool con)])),(1,(vU32 id)),(4,(ptr b2 0)),(9,ev),(10,(vN xs.length)),(11,(vN k))]) (fun k w'=>(k≤xs.length∧(∀j,j<k→xtIs id (xs.getD j Xt.zero)=false))∧Owl.Own [] w w' [.blk b1 [(vU32 mp),ev,pv,(.bool con)] 40,.blk b2 [(vU32 0),(vU32 0)] 207]) (fun k=>xs.length-k) 0 ⟨⟨Nat.zero_le _,fun j h=>by omega⟩,H2⟩ ⟨rfl,rfl,rfl,rfl,rfl,rfl,trivial⟩ ?_)))))))))
 rintro k w3 ⟨⟨hk1,hok⟩,H3⟩
 show WC _ _ _ _ _ [(0,(.agg #[(vU32 mp),ev,pv,(.bool con)])),(1,(vU32 id)),(4,(ptr b2 0)),(9,ev),(10,(vN xs.length)),(11,(vN k))] _
 refine ws<|wo (op_lssN rfl rfl<|wn<|WC.seq (wC (decide (k<xs.length)) (fun hb4=>?_) (fun hb4=>?_)))
 ·
  have hc4:=dT hb4
  refine WC.skip<|WQ.next<|WC.seq<|WC.block<|ws<|wo (op_indexAddr Tryz.underlying37 Fa.I207 rfl (H3.arr hE) rfl (by omega)<|wo (op_loadSP (vs:=xtc (xs.getD k Xt.zero)) rfl (Arr.atsF (H3.arr hE) (fun _=>rfl) (by decide) Xt.zero (by omega)) Tryz.underlying207 rfl Fa.I207 rfl<|wo (op_alloc H3 Fa.I207 (fun b5 w5 H5=>(wo (op_storeBW (i:=2) H5 rfl rfl rfl rfl rfl Fa.I207 (fun w6 H6=>(wn<|ws<|wo (op_fieldAddr rfl Fa.F207_0<|wo (op_load rfl (H6.cell (i:=2) rfl rfl) Tryz.underlying22 rfl<|wm rfl<|wo (op_eqlU32 rfl rfl<|wn (wC (decide ((xs.getD k Xt.zero).id=id)) (fun hb7=>?_) (fun hb7=>?_)))))))))))))
  ·
   have hc7:=dT hb7
   exact ws<|wo (op_loadS (vs:=[_,_]) rfl (H6.cells (i:=2) rfl rfl) Tryz.underlying207 rfl Fa.I207 rfl<|wo (op_storeBW (i:=1) H6 rfl rfl rfl rfl rfl Fa.I207 (fun w8 H8=>(wa rfl<|wn<|WC.ret<|WQ.inRet<|WQ.thenRet<|WQ.thenRet<|WQ.inRet<|WQ.thenRet<|WQ.out (.cell rfl (run_loadVarS (vs:=[_,_]) (H8.cells (i:=1) rfl rfl) Tryz.underlying207 rfl Fa.I207 rfl) (.tmp rfl .nil)) (⟨by rw [(extG_yes (k:=k) (by omega) hok hb7).1,(extG_yes (k:=k) (by omega) hok hb7).2]; rfl,H8.fr⟩)))))
  ·
   have hc7:=dF hb7
   exact WC.skip<|WQ.inNormal<|WQ.next<|WC.region<|wo (op_addN (b:=1) rfl rfl (by omega)<|wm rfl<|WL.nil<|WQ.round (k+1) ⟨⟨by omega,allPrev hok hb7⟩,(H6.take 2)⟩ ⟨rfl,rfl,rfl,rfl,rfl,rfl,trivial⟩ (by omega))
 ·
  have hc4:=dF hb4
  exact WC.exit<|WQ.thenExit<|WQ.thenExit<|WQ.inHere<|WQ.next<|ws<|wo (op_build (cs:=[_,_]) Fa.I207 Fa.PL207 rfl rfl<|wo (op_storeBW (i:=1) H3 rfl rfl rfl rfl rfl Fa.I207 (fun w9 H9=>(wa rfl<|wn<|WC.ret<|WQ.out (.cell rfl (run_loadVarS (vs:=[_,_]) (H9.cells (i:=1) rfl rfl) Tryz.underlying207 rfl Fa.I207 rfl) (.tmp rfl .nil)) (⟨by rw [(extG_no (fun j hj=>hok j (by omega))).1,(extG_no (fun j hj=>hok j (by omega))).2]; rfl,H9.fr⟩)))))
theorem busyP_ok (y:UInt16) (cb:Nat) (g:Gr) (w:World) (hCb:cellsAt w cb [(ptr g.b 0)]) (hGb:cellsAt w g.b [(vU32 g.pg),g.ev,g.pv,(.bool g.con),(vU32 g.pp),(vU32 g.tk)]) (hGe:Arr w g.ev 2 g.xs.length (List.flatMap xtc g.xs)) (hGp:Arr w g.pv 1 g.ps.length (List.map vU16 g.ps)) (hgp:g.ps.length<2^40) :
  Calls Tryz.prog 234 #[(vU16 y),(ptr cb 0)] w (fun e w'=>e=.returned (.bool (busyQ g y))∧Fr [] w w'):=by
 refine enter (args:=[(vU16 y),(ptr cb 0)]) Tryz.func234 rfl rfl ?_
 have H0:Owl.Own [] w w [Ent.bo cb [(ptr g.b 0)],Ent.bo g.b [(vU32 g.pg),g.ev,g.pv,(.bool g.con),(vU32 g.pp),(vU32 g.tk)],Ent.ar g.ev 2 g.xs.length (List.flatMap xtc g.xs),Ent.ar g.pv 1 g.ps.length (List.map vU16 g.ps)]:=(((((Own.start w []).oldB hCb).oldB hGb).oldA hGe).oldA hGp)
 refine ws<|wa rfl<|wn<|ws<|wo (op_load rfl (H0.cellO (i:=0) rfl rfl) Tryz.underlying197 rfl<|wo (op_nilCheck rfl<|wo (op_fieldAddr rfl Fa.F199_0<|wo (op_fieldAddr rfl Fa.F40_2<|wo (op_load rfl (H0.cellO (i:=1) rfl rfl) Tryz.underlying38 rfl<|wm rfl<|wo (op_callF Fa.C141 rfl ((con16_ok _ g.ps y _ (H0.arrO (i:=3) rfl) (by omega)).mono (fun e w1 hq=>?_))))))))
 obtain ⟨rfl,hf1⟩:=hq
 refine ⟨_,rfl,?_⟩
 have H1:=H0.fr' hf1
 exact wa rfl<|wn<|WC.ret<|WQ.out (.tmp rfl .nil) (⟨rfl,H1.fr⟩)
theorem idxB_ok (cb:Nat) (g:Gr) (lv:Value) (l:List UInt16) (w:World) (hA:Arr w lv 1 l.length (List.map vU16 l)) (hCb:cellsAt w cb [(ptr g.b 0)]) (hGb:cellsAt w g.b [(vU32 g.pg),g.ev,g.pv,(.bool g.con),(vU32 g.pp),(vU32 g.tk)]) (hGe:Arr w g.ev 2 g.xs.length (List.flatMap xtc g.xs)) (hGp:Arr w g.pv 1 g.ps.length (List.map vU16 g.ps)) (hgp:g.ps.length<2^40) (hn:l.length<2^40) :
  Calls Tryz.prog 248 #[lv,(.func (.func 234) #[] #[(ptr cb 0)])] w (fun e w'=>e=.returned (vI (fidx (busyQ g) l))∧Fr [] w w'):=by
 refine enter (args:=[lv,(.func (.func 234) #[] #[(ptr cb 0)])]) Tryz.func248 rfl rfl ?_
 have H0:Owl.Own [] w w [Ent.bo cb [(ptr g.b 0)],Ent.bo g.b [(vU32 g.pg),g.ev,g.pv,(.bool g.con),(vU32 g.pp),(vU32 g.tk)],Ent.ar g.ev 2 g.xs.length (List.flatMap xtc g.xs),Ent.ar g.pv 1 g.ps.length (List.map vU16 g.ps)]:=(((((Own.start w []).oldB hCb).oldB hGb).oldA hGe).oldA hGp)
 refine ws<|wa rfl<|wn<|WC.seq<|ws<|wm rfl<|wo (op_lenA Tryz.underlying38 rfl (H0.arr hA)<|wm rfl<|wn<|WC.block<|WC.loop (α:=Nat) (fun k=>[(0,lv),(1,(.func (.func 234) #[] #[(ptr cb 0)])),(7,(vN l.length)),(8,(vN k))]) (fun k w'=>(k≤l.length∧(∀j,j<k→busyQ g (l.getD j 0)=false))∧Owl.Own [] w w' [Ent.bo cb [(ptr g.b 0)],Ent.bo g.b [(vU32 g.pg),g.ev,g.pv,(.bool g.con),(vU32 g.pp),(vU32 g.tk)],Ent.ar g.ev 2 g.xs.length (List.flatMap xtc g.xs),Ent.ar g.pv 1 g.ps.length (List.map vU16 g.ps)]) (fun k=>l.length-k) 0 ⟨⟨Nat.zero_le _,fun j h=>by omega⟩,H0⟩ ⟨rfl,rfl,rfl,rfl,trivial⟩ ?_)
 rintro k w1 ⟨⟨hk1,hok⟩,H1⟩
 show WC _ _ _ _ _ [(0,lv),(1,(.func (.func 234) #[] #[(ptr cb 0)])),(7,(vN l.length)),(8,(vN k))] _
 refine ws<|wo (op_lssN rfl rfl<|wn<|WC.seq (wC (decide (k<l.length)) (fun hb2=>?_) (fun hb2=>?_)))
 ·
  have hc2:=dT hb2
  refine WC.skip<|WQ.next<|WC.seq<|WC.block<|ws<|wm rfl<|wa rfl<|wn<|ws<|wm rfl<|wm rfl<|wm rfl<|wo (op_indexAddr1 Tryz.underlying38 Fa.I203 rfl (H1.arr hA) rfl (by omega)<|wo (op_load rfl ((H1.arr hA).at (get_map vU16 0 (Arr.ltM (H1.arr hA) (by omega)))) Tryz.underlying203 rfl<|wo (op_call (f:=234) rfl Fa.C234 rfl ((busyP_ok (l.getD k 0) cb g _ (H1.cellsAtO (i:=0) rfl) (H1.cellsAtO (i:=1) rfl) (H1.arrO (i:=2) rfl) (H1.arrO (i:=3) rfl) hgp).mono (fun e w3 hq=>?_)))))
  obtain ⟨rfl,hf3⟩:=hq
  refine ⟨_,rfl,?_⟩
  have H3:=H1.fr' hf3
  refine wn (wC (busyQ g (l.getD k 0)) (fun hb4=>?_) (fun hb4=>?_))
  ·
   exact ws<|wm rfl<|wa rfl<|wn<|WC.ret<|WQ.inRet<|WQ.thenRet<|WQ.thenRet<|WQ.inRet<|WQ.thenRet<|WQ.out (.tmp rfl .nil) (⟨by rw [fidx_yes (d:=0) (by omega) hok hb4]; rfl,H3.fr⟩)
  ·
   exact WC.skip<|WQ.inNormal<|WQ.next<|WC.region<|wo (op_addN (b:=1) rfl rfl (by omega)<|wm rfl<|WL.nil<|WQ.round (k+1) ⟨⟨by omega,allPrev hok hb4⟩,H3⟩ ⟨rfl,rfl,rfl,rfl,trivial⟩ (by omega))
 ·
  have hc2:=dF hb2
  exact WC.exit<|WQ.thenExit<|WQ.thenExit<|WQ.inHere<|WQ.next<|ws<|wa rfl<|wn<|WC.ret<|WQ.out (.tmp rfl .nil) (⟨by rw [fidx_no (d:=0) (fun j hj=>hok j (by omega))]; rfl,H1.fr⟩)
theorem conB_ok (cb:Nat) (g:Gr) (lv:Value) (l:List UInt16) (w:World) (hA:Arr w lv 1 l.length (List.map vU16 l)) (hCb:cellsAt w cb [(ptr g.b 0)]) (hGb:cellsAt w g.b [(vU32 g.pg),g.ev,g.pv,(.bool g.con),(vU32 g.pp),(vU32 g.tk)]) (hGe:Arr w g.ev 2 g.xs.length (List.flatMap xtc g.xs)) (hGp:Arr w g.pv 1 g.ps.length (List.map vU16 g.ps)) (hgp:g.ps.length<2^40) (hn:l.length<2^40) :
  Calls Tryz.prog 233 #[lv,(.func (.func 234) #[] #[(ptr cb 0)])] w (fun e w'=>e=.returned (.bool (l.any (busyQ g)))∧Fr [] w w'):=by
 refine enter (args:=[lv,(.func (.func 234) #[] #[(ptr cb 0)])]) Tryz.func233 rfl rfl ?_
 have H0:Owl.Own [] w w [Ent.bo cb [(ptr g.b 0)],Ent.bo g.b [(vU32 g.pg),g.ev,g.pv,(.bool g.con),(vU32 g.pp),(vU32 g.tk)],Ent.ar g.ev 2 g.xs.length (List.flatMap xtc g.xs),Ent.ar g.pv 1 g.ps.length (List.map vU16 g.ps)]:=(((((Own.start w []).oldB hCb).oldB hGb).oldA hGe).oldA hGp)
 refine ws<|wa rfl<|wn<|ws<|wm rfl<|wm rfl<|wo (op_callF Fa.C248 rfl ((idxB_ok cb g _ l _ (H0.arr hA) (H0.cellsAtO (i:=0) rfl) (H0.cellsAtO (i:=1) rfl) (H0.arrO (i:=2) rfl) (H0.arrO (i:=3) rfl) hgp hn).mono (fun e w1 hq=>?_)))
 obtain ⟨rfl,hf1⟩:=hq
 refine ⟨_,rfl,?_⟩
 have H1:=H0.fr' hf1
 exact wo (op_geqI (b:=(0:Int)) rfl rfl<|wa rfl<|wn<|WC.ret<|WQ.out (.tmp rfl .nil) (⟨by rw [←fidx_any]; rfl,H1.fr⟩))
theorem busy_ok (c:Nat) (pg:UInt32) (hv:Value) (he:List UInt32) (mb cn:Nat) (gs:List Gr) (mp:UInt32) (ev pv:Value) (xs:List Xt) (ps:List UInt16) (con:Bool) (w:World) (hC:cellsAt w c [(vU32 pg),hv,(.map (some mb))]) (hH:Arr w hv 1 he.length (List.map vU32 he)) (hM:w.heap[mb]?=some (mP .i64 (List.map Gr.me gs) cn)) (hG:BsOK 199 Gr.cells Gr.b gs w) (hS:grD.list.ok w gs) (hME:MEok (List.map Gr.me gs) cn) (hfit: ∀g∈gs,g.ps.length<2^40∧g.xs.length<2^40) (hE:Arr w ev 2 xs.length (List.flatMap xtc xs)) (hP:Arr w pv 1 ps.length (List.map vU16 ps)) (hn:xs.length<2^40) (hm:ps.length<2^40) (hhe:he.length<2^32) :
    Calls Tryz.prog 210 #[(ptr c 0),(.agg #[(vU32 mp),ev,pv,(.bool con)])] w (fun e w'=>e=.returned (vN (busyE gs xs ps))∧Fr [] w w'):=by
  refine enter (args:=[(ptr c 0),(.agg #[(vU32 mp),ev,pv,(.bool con)])]) Tryz.func210 rfl rfl ?_
  have H0:Owl.Own [] w w [Ent.bo c [(vU32 pg),hv,(.map (some mb))],Ent.ar hv 1 he.length (List.map vU32 he),Ent.mo .i64 mb (List.map Gr.me gs) cn,Ent.bsO 199 Gr.cells Gr.b gs,Ent.dp grD.list gs]:=((((((Own.start w []).oldB hC).oldA hH).mpOld hM).bsOld hG).dpOld hS)
  refine ws<|wo (op_box H0 rfl rfl (fun b1 w1 H1=>(wa rfl<|wn<|WC.seq<|ws<|wm rfl<|wo (op_nilCheck rfl<|wo (op_fieldAddr rfl Fa.F196_1<|wo (op_load rfl (H1.cellO (i:=0) rfl rfl) Tryz.underlying194 rfl<|wo (op_rangeP H1 (H1.mpO (i:=2) rfl) Tryz.underlying194 rfl (fun b2 w2 H2=>(wn<|WC.block<|WC.loop (α:=List Gr × List Gr) (fun (sn,rst)=>[(3,(ptr b1 0)),(15,(ptr b2 0))]) (fun (sn,rst) w'=>(gs.Perm (sn++rst)∧∀g∈sn,busyG xs ps g=false)∧Owl.Own [] w w' [Ent.bo c [(vU32 pg),hv,(.map (some mb))],Ent.ar hv 1 he.length (List.map vU32 he),Ent.mo .i64 mb (List.map Gr.me gs) cn,Ent.bsO 199 Gr.cells Gr.b gs,Ent.dp grD.list gs,.blk b1 [(vU32 mp),ev,pv,(.bool con)] 40,.obj b2 (itO mb cn (List.map Gr.me sn))]) (fun (sn,rst)=>rst.length) ([],gs) ⟨⟨List.Perm.refl _,fun g h=>(by cases h)⟩,H2⟩ ⟨rfl,rfl,trivial⟩ ?_)))))))))
  rintro ⟨sn,rst⟩ w3 ⟨⟨hpm,hno⟩,H3⟩
  show WC _ _ _ _ _ [(3,(ptr b1 0)),(15,(ptr b2 0))] _
  refine ws<|wo (op_nextG (i:=6) (sn:=sn) (rest:=rst) H3 rfl (H3.mpO (i:=2) rfl) hME hpm rfl (fun h0=>?_) (fun g4 rs4 hl4 hp4 w4 H4=>?_))
  ·
    exact we rfl rfl<|wn<|WC.seq<|WC.no rfl rfl<|WC.exit<|WQ.thenExit<|WQ.thenExit<|WQ.inHere<|WQ.next<|ws<|wa rfl<|wn<|WC.ret<|WQ.out (.tmp rfl .nil) (⟨by rw [h0,List.append_nil] at hpm; rw [busyE_no hpm hno]; rfl,H3.fr⟩)
  ·
    have H5:=(((H4.bsView (i:=3) (a:=g4) rfl (hp4.mem_iff.2 (by simp))).dpView (i:=4) (a:=g4) rfl (hp4.mem_iff.2 (by simp)) (fun w h=>h.1) (fun b hb=>List.mem_append.2 (.inl hb))).dpView (i:=4) (a:=g4) rfl (hp4.mem_iff.2 (by simp)) (fun w h=>h.2) (fun b hb=>List.mem_append.2 (.inr hb)))
    have hgf:=hfit g4 (hp4.mem_iff.2 (by simp))
    have hgp:=hgf.1
    have hgx:=hgf.2
    refine we rfl rfl<|wn<|WC.seq<|WC.yes rfl rfl<|WC.skip<|WQ.next<|WC.block<|ws<|wo (op_entryG (i:=6) (sn:=sn) (g:=g4) H5 rfl (H5.mpO (i:=2) rfl) hME hp4 rfl<|we rfl rfl<|wo (op_alloc H5 Fa.I197 (fun b6 w6 H6=>(wo (op_storeB (i:=10) H6 rfl rfl rfl rfl rfl Fa.I197 (fun w7 H7=>(wn<|WC.seq<|ws<|wo (op_fieldAddr rfl Fa.F40_2<|wo (op_load rfl (H7.cell (i:=5) rfl rfl) Tryz.underlying38 rfl<|wo (op_makeFunc rfl rfl<|wo (op_callF Fa.C233 rfl ((conB_ok b6 g4 _ ps _ (H7.arr hP) (H7.cellsAt (i:=10) rfl) (H7.cellsAtO (i:=7) rfl) (H7.arrO (i:=8) rfl) (H7.arrO (i:=9) rfl) hgp hm).mono (fun e w8 hq=>?_)))))))))))))
    obtain ⟨rfl,hf8⟩:=hq
    refine ⟨_,rfl,?_⟩
    have H8:=H7.fr' hf8
    refine wn (wC (ps.any (busyQ g4)) (fun hb9=>?_) (fun hb9=>?_))
    ·
      exact ws<|wa rfl<|wn<|WC.ret<|WQ.thenRet<|WQ.inRet<|WQ.thenRet<|WQ.inRet<|WQ.thenRet<|WQ.out (.tmp rfl .nil) (⟨by rw [busyE_yes (g:=g4) (hp4.mem_iff.2 (by simp)) (by rw [busyG,hb9]; rfl)]; rfl,H8.fr⟩)
    ·
      refine WC.skip<|WQ.next<|ws<|wo (op_fieldAddr rfl Fa.F40_1<|wo (op_load rfl (H8.cell (i:=5) rfl rfl) Tryz.underlying37 rfl<|wo (op_lenA Tryz.underlying37 rfl (H8.arr hE)<|wm rfl<|wn<|WC.block<|WC.loop (α:=Nat) (fun k=>[(3,(ptr b1 0)),(6,(ptr b6 0)),(15,(ptr b2 0)),(25,ev),(26,(vN xs.length)),(27,(vN k))]) (fun k w'=>(k≤xs.length∧(∀j,j<k→busyX g4 (xs.getD j Xt.zero)=false))∧Owl.Own [] w w' [Ent.bo c [(vU32 pg),hv,(.map (some mb))],Ent.ar hv 1 he.length (List.map vU32 he),Ent.mo .i64 mb (List.map Gr.me gs) cn,Ent.bsO 199 Gr.cells Gr.b gs,Ent.dp grD.list gs,.blk b1 [(vU32 mp),ev,pv,(.bool con)] 40,.obj b2 (itO mb cn (List.map Gr.me (sn++[g4]))),Ent.bo g4.b [(vU32 g4.pg),g4.ev,g4.pv,(.bool g4.con),(vU32 g4.pp),(vU32 g4.tk)],Ent.ar g4.ev 2 g4.xs.length (List.flatMap xtc g4.xs),Ent.ar g4.pv 1 g4.ps.length (List.map vU16 g4.ps),.blk b6 [(ptr g4.b 0)] 197]) (fun k=>xs.length-k) 0 ⟨⟨Nat.zero_le _,fun j h=>by omega⟩,H8⟩ ⟨rfl,rfl,rfl,rfl,rfl,rfl,trivial⟩ ?_)))
      rintro k w10 ⟨⟨hk1,hok⟩,H10⟩
      show WC _ _ _ _ _ [(3,(ptr b1 0)),(6,(ptr b6 0)),(15,(ptr b2 0)),(25,ev),(26,(vN xs.length)),(27,(vN k))] _
      refine ws<|wo (op_lssN rfl rfl<|wn<|WC.seq (wC (decide (k<xs.length)) (fun hb11=>?_) (fun hb11=>?_)))
      ·
        have hc11:=dT hb11
        refine WC.skip<|WQ.next<|WC.seq<|WC.block<|ws<|wo (op_indexAddr Tryz.underlying37 Fa.I207 rfl (H10.arr hE) rfl (by omega)<|wo (op_loadSP (vs:=xtc (xs.getD k Xt.zero)) rfl (Arr.atsF (H10.arr hE) (fun _=>rfl) (by decide) Xt.zero (by omega)) Tryz.underlying207 rfl Fa.I207 rfl<|wo (op_alloc H10 Fa.I207 (fun b12 w12 H12=>(wo (op_storeBW (i:=11) H12 rfl rfl rfl rfl rfl Fa.I207 (fun w13 H13=>(wn<|WC.seq<|WC.held 13 rfl Fa.M H13 (fun w'=> ∃L',Owl.Own [] w w' ([Ent.bo c [(vU32 pg),hv,(.map (some mb))],Ent.ar hv 1 he.length (List.map vU32 he),Ent.mo .i64 mb (List.map Gr.me gs) cn,Ent.bsO 199 Gr.cells Gr.b gs,Ent.dp grD.list gs,.blk b1 [(vU32 mp),ev,pv,(.bool con)] 40,.obj b2 (itO mb cn (List.map Gr.me (sn++[g4]))),Ent.bo g4.b [(vU32 g4.pg),g4.ev,g4.pv,(.bool g4.con),(vU32 g4.pp),(vU32 g4.tk)],Ent.ar g4.ev 2 g4.xs.length (List.flatMap xtc g4.xs),Ent.ar g4.pv 1 g4.ps.length (List.map vU16 g4.ps),.blk b6 [(ptr g4.b 0)] 197,.blk b12 [(vU32 (xs.getD k Xt.zero).id),(vU32 (xs.getD k Xt.zero).bl)] 207]++L')) ?_))))))))
        intro w14 H14
        refine xt 0 rfl (ptr g4.b 0) H14 (fun _ _ HX=>op_load rfl (HX.cell (i:=10) rfl rfl) Tryz.underlying197 rfl ⟨rfl,rfl⟩)<|xt 4 rfl (ptr b12 0) H14 (fun _ _ HX=>op_fieldAddr rfl Fa.F207_0 ⟨rfl,rfl⟩)<|xt 5 rfl (vU32 (xs.getD k Xt.zero).id) H14 (fun _ _ HX=>op_load rfl (HX.cell (i:=11) rfl rfl) Tryz.underlying22 rfl ⟨rfl,rfl⟩)<|WH.named (fun W hW=>?_)
        let e9:List (Nat × Value)→List (Nat × Value):=fun r=>(3,(ptr b1 0))::(6,(ptr b6 0))::(8,(ptr b12 0))::(15,(ptr b2 0))::(25,ev)::(26,(vN xs.length))::(27,(vN k))::(28,(.bool (decide (k<xs.length))))::(29,(.pointer (some (sp ev (k * 2)))))::(30,(.agg #[(vU32 (xs.getD k Xt.zero).id),(vU32 (xs.getD k Xt.zero).bl)]))::r
        let a9_0:Ent:=Ent.bo c [(vU32 pg),hv,(.map (some mb))]
        let a9_1:Ent:=Ent.ar hv 1 he.length (List.map vU32 he)
        let a9_2:Ent:=Ent.mo .i64 mb (List.map Gr.me gs) cn
        let a9_3:Ent:=Ent.bsO 199 Gr.cells Gr.b gs
        let a9_4:Ent:=Ent.dp grD.list gs
        let a9_5:Ent:=.blk b1 [(vU32 mp),ev,pv,(.bool con)] 40
        let a9_6:Ent:=.obj b2 (itO mb cn (List.map Gr.me (sn++[g4])))
        let a9_7:Ent:=Ent.bo g4.b [(vU32 g4.pg),g4.ev,g4.pv,(.bool g4.con),(vU32 g4.pp),(vU32 g4.tk)]
        let a9_8:Ent:=Ent.ar g4.ev 2 g4.xs.length (List.flatMap xtc g4.xs)
        let a9_9:Ent:=Ent.ar g4.pv 1 g4.ps.length (List.map vU16 g4.ps)
        let a9_10:Ent:=.blk b6 [(ptr g4.b 0)] 197
        let a9_11:Ent:=.blk b12 [(vU32 (xs.getD k Xt.zero).id),(vU32 (xs.getD k Xt.zero).bl)] 207
        have st9_6: ∀(b25201:Nat) (wS:World),Owl.Own [] w wS [a9_0,a9_1,a9_2,a9_3,a9_4,a9_5,a9_6,a9_7,a9_8,a9_9,a9_10,a9_11,.blk b25201 [(vU32 (extG g4.xs ((xs.getD k Xt.zero).id)).id),(vU32 (extG g4.xs ((xs.getD k Xt.zero).id)).bl)] 207]→W 0 (bz 13 8191) (e9 [(10,(.bool (hasX g4.xs ((xs.getD k Xt.zero).id))))]) wS:=by
          intro b25201 wS HS
          rw [hW]
          refine WH.done (by kernel_rfl)<|WQ.next<|ws<|wm rfl<|wn (wC (hasX g4.xs ((xs.getD k Xt.zero).id)) (fun hb16=>?_) (fun hb16=>?_))
          ·
            exact ws<|wa rfl<|wn<|WC.ret<|WQ.inRet<|WQ.thenRet<|WQ.thenRet<|WQ.inRet<|WQ.inRet<|WQ.thenRet<|WQ.inRet<|WQ.thenRet<|WQ.out (.tmp rfl .nil) (⟨by rw [busyE_yes (g:=g4) (hp4.mem_iff.2 (by simp)) (by rw [busyG,any_yes (p:=busyX g4) (d:=Xt.zero) (k:=k) (by omega) hb16,Bool.or_true])]; rfl,HS.fr⟩)
          ·
            exact WC.skip<|WQ.inNormal<|WQ.next<|WC.region<|wo (op_addN (b:=1) rfl rfl (by omega)<|wm rfl<|WL.nil<|WQ.round (k+1) ⟨⟨by omega,allPrev hok hb16⟩,(HS.take 11)⟩ ⟨rfl,rfl,rfl,rfl,rfl,rfl,trivial⟩ (by omega))
        have st9_5: ∀(b25201:Nat) (wS:World),Owl.Own [] w wS [a9_0,a9_1,a9_2,a9_3,a9_4,a9_5,a9_6,a9_7,a9_8,a9_9,a9_10,a9_11,.blk b25201 [(vU32 0),(vU32 0)] 207]→W 2 (bz 13 2047) (e9 [(9,(ptr b25201 0)),(39,(.agg #[(vU32 (extG g4.xs ((xs.getD k Xt.zero).id)).id),(vU32 (extG g4.xs ((xs.getD k Xt.zero).id)).bl)])),(40,(.bool (hasX g4.xs ((xs.getD k Xt.zero).id))))]) wS:=by
          intro b25201 wS HS
          rw [hW]
          refine wh1 11 ?_
          ·
            refine kH 11 rfl (op_storeBW (i:=12) HS rfl rfl rfl rfl rfl Fa.I207 (fun w25221 H25221=>(⟨⟨_,H25221⟩,?_⟩)))
            exact xt 12 rfl (.bool (hasX g4.xs ((xs.getD k Xt.zero).id))) H25221 (fun _ _ HX=>op_assign rfl ⟨rfl,rfl⟩)<|WH.cw hW (st9_6 b25201 w25221 H25221)
        have st9_3: ∀(wS:World),Owl.Own [] w wS [a9_0,a9_1,a9_2,a9_3,a9_4,a9_5,a9_6,a9_7,a9_8,a9_9,a9_10,a9_11]→W 3 (bz 13 1023) (e9 [(39,(.agg #[(vU32 (extG g4.xs ((xs.getD k Xt.zero).id)).id),(vU32 (extG g4.xs ((xs.getD k Xt.zero).id)).bl)])),(40,(.bool (hasX g4.xs ((xs.getD k Xt.zero).id))))]) wS:=by
          intro wS HS
          rw [hW]
          refine wh1 10 ?_
          ·
            refine kH 10 rfl (op_alloc HS Fa.I207 (fun b25201 w25201 H25201=>(⟨⟨_,H25201⟩,?_⟩)))
            exact WH.cw hW (st9_5 b25201 w25201 H25201)
        have st9_4: ∀(b25201:Nat) (wS:World),Owl.Own [] w wS [a9_0,a9_1,a9_2,a9_3,a9_4,a9_5,a9_6,a9_7,a9_8,a9_9,a9_10,a9_11,.blk b25201 [(vU32 0),(vU32 0)] 207]→W 6 (bz 13 1087) (e9 [(9,(ptr b25201 0)),(35,(.agg #[(vU32 g4.pg),g4.ev,g4.pv,(.bool g4.con)])),(37,(vU32 (xs.getD k Xt.zero).id))]) wS:=by
          intro b25201 wS HS
          rw [hW]
          refine wh1 6 ?_
          ·
            refine kH 6 rfl (op_callF Fa.C235 rfl ((extent_ok g4.pg _ _ g4.xs g4.ps g4.con ((xs.getD k Xt.zero).id) _ (HS.arrO (i:=8) rfl) (HS.arrO (i:=9) rfl) (by omega) (by omega)).mono (fun e w25121 hq=>?_)))
            obtain ⟨rfl,hf25121⟩:=hq
            refine ⟨_,rfl,?_⟩
            have H25121:=HS.fr' hf25121
            refine ⟨⟨_,H25121⟩,?_⟩
            exact xt 7 rfl (.tuple #[(.agg #[(vU32 (extG g4.xs ((xs.getD k Xt.zero).id)).id),(vU32 (extG g4.xs ((xs.getD k Xt.zero).id)).bl)]),(.bool (hasX g4.xs ((xs.getD k Xt.zero).id)))]) H25121 (fun _ _ HX=>op_move rfl ⟨rfl,rfl⟩)<|xt 8 rfl (.agg #[(vU32 (extG g4.xs ((xs.getD k Xt.zero).id)).id),(vU32 (extG g4.xs ((xs.getD k Xt.zero).id)).bl)]) H25121 (fun _ _ HX=>op_extract rfl rfl ⟨rfl,rfl⟩)<|xt 9 rfl (.bool (hasX g4.xs ((xs.getD k Xt.zero).id))) H25121 (fun _ _ HX=>op_extract rfl rfl ⟨rfl,rfl⟩)<|WH.cw hW (st9_5 b25201 w25121 H25121)
        have st9_1: ∀(wS:World),Owl.Own [] w wS [a9_0,a9_1,a9_2,a9_3,a9_4,a9_5,a9_6,a9_7,a9_8,a9_9,a9_10,a9_11]→W 7 (bz 13 63) (e9 [(35,(.agg #[(vU32 g4.pg),g4.ev,g4.pv,(.bool g4.con)])),(37,(vU32 (xs.getD k Xt.zero).id))]) wS:=by
          intro wS HS
          rw [hW]
          refine wh2 6 10 ?_ ?_
          ·
            refine kH 6 rfl (op_callF Fa.C235 rfl ((extent_ok g4.pg _ _ g4.xs g4.ps g4.con ((xs.getD k Xt.zero).id) _ (HS.arrO (i:=8) rfl) (HS.arrO (i:=9) rfl) (by omega) (by omega)).mono (fun e w25121 hq=>?_)))
            obtain ⟨rfl,hf25121⟩:=hq
            refine ⟨_,rfl,?_⟩
            have H25121:=HS.fr' hf25121
            refine ⟨⟨_,H25121⟩,?_⟩
            exact xt 7 rfl (.tuple #[(.agg #[(vU32 (extG g4.xs ((xs.getD k Xt.zero).id)).id),(vU32 (extG g4.xs ((xs.getD k Xt.zero).id)).bl)]),(.bool (hasX g4.xs ((xs.getD k Xt.zero).id)))]) H25121 (fun _ _ HX=>op_move rfl ⟨rfl,rfl⟩)<|xt 8 rfl (.agg #[(vU32 (extG g4.xs ((xs.getD k Xt.zero).id)).id),(vU32 (extG g4.xs ((xs.getD k Xt.zero).id)).bl)]) H25121 (fun _ _ HX=>op_extract rfl rfl ⟨rfl,rfl⟩)<|xt 9 rfl (.bool (hasX g4.xs ((xs.getD k Xt.zero).id))) H25121 (fun _ _ HX=>op_extract rfl rfl ⟨rfl,rfl⟩)<|WH.cw hW (st9_3 w25121 H25121)
          ·
            refine kH 10 rfl (op_alloc HS Fa.I207 (fun b25201 w25201 H25201=>(⟨⟨_,H25201⟩,?_⟩)))
            exact WH.cw hW (st9_4 b25201 w25201 H25201)
        have st9_2: ∀(b25201:Nat) (wS:World),Owl.Own [] w wS [a9_0,a9_1,a9_2,a9_3,a9_4,a9_5,a9_6,a9_7,a9_8,a9_9,a9_10,a9_11,.blk b25201 [(vU32 0),(vU32 0)] 207]→W 9 (bz 13 1073) (e9 [(9,(ptr b25201 0)),(32,(ptr g4.b 0)),(37,(vU32 (xs.getD k Xt.zero).id))]) wS:=by
          intro b25201 wS HS
          rw [hW]
          refine wh1 1 ?_
          ·
            refine kH 1 rfl (op_nilCheck rfl (⟨⟨_,HS⟩,?_⟩))
            exact xt 2 rfl (ptr g4.b 0) HS (fun _ _ HX=>op_fieldAddr rfl Fa.F199_0 ⟨rfl,rfl⟩)<|xt 3 rfl (.agg #[(vU32 g4.pg),g4.ev,g4.pv,(.bool g4.con)]) HS (fun _ _ HX=>op_loadS (vs:=[_,_,_,_]) rfl (HX.cellsO (i:=7) rfl rfl) Tryz.underlying40 rfl Fa.I40 rfl ⟨rfl,rfl⟩)<|WH.cw hW (st9_4 b25201 wS HS)
        have st9_0: ∀(wS:World),Owl.Own [] w wS [a9_0,a9_1,a9_2,a9_3,a9_4,a9_5,a9_6,a9_7,a9_8,a9_9,a9_10,a9_11]→W 10 (bz 13 49) (e9 [(32,(ptr g4.b 0)),(37,(vU32 (xs.getD k Xt.zero).id))]) wS:=by
          intro wS HS
          rw [hW]
          refine wh2 1 10 ?_ ?_
          ·
            refine kH 1 rfl (op_nilCheck rfl (⟨⟨_,HS⟩,?_⟩))
            exact xt 2 rfl (ptr g4.b 0) HS (fun _ _ HX=>op_fieldAddr rfl Fa.F199_0 ⟨rfl,rfl⟩)<|xt 3 rfl (.agg #[(vU32 g4.pg),g4.ev,g4.pv,(.bool g4.con)]) HS (fun _ _ HX=>op_loadS (vs:=[_,_,_,_]) rfl (HX.cellsO (i:=7) rfl rfl) Tryz.underlying40 rfl Fa.I40 rfl ⟨rfl,rfl⟩)<|WH.cw hW (st9_1 wS HS)
          ·
            refine kH 10 rfl (op_alloc HS Fa.I207 (fun b25201 w25201 H25201=>(⟨⟨_,H25201⟩,?_⟩)))
            exact WH.cw hW (st9_2 b25201 w25201 H25201)
        have hq:=st9_0 w14 H14
        rw [hW] at hq ⊢
        exact WH.cv hq
      ·
        have hc11:=dF hb11
        refine WC.exit<|WQ.thenExit<|WQ.thenExit<|WQ.inHere<|WQ.inNormal ?_
        exact WQ.round ((sn++[g4]),rs4) ⟨⟨hp4,fun g' hg'=>by
          rcases List.mem_append.1 hg' with h9 | h9
          · exact hno g' h9
          · rw [List.mem_singleton] at h9; subst h9; rw [busyG,hb9,any_no (d:=Xt.zero) (fun j hj=>hok j (by omega))]; rfl⟩,(H10.take 7)⟩ ⟨rfl,rfl,trivial⟩ (by show rs4.length<rst.length; omega)
end Go.Proofs.YtbjhccnffacbcaaGreat
