/- General lemmas and walks: FWInsn, FWRef4, FWSha, FWSha2, FWRef2, FWMac, FWBuild, FWSlot, FWSlot2, FWSlot3, FWSlot4, FWSlot5, FWSlot6, FWSlot7, FWSlot8, FWSlot9, FWSlot10, FWCap, FWDem, FWCap2, FWCap3, FWCap4, FWCap5, FWCap6, FWCap7, FWCap8, FWCap9, FWCap10, FWCap11, FWCap12, FWCap13, FWCap14, FWCap15, FWPack, FWPack2, FWImg, FWImg2, FWImg3, FWImg4, FWImg5, FWImg6, FWImg7, FWImg8, FWImg9, FWImg10, FWImg11, FWImg12, FWImg14, FWImg15, FWSeal, FWSeal2, FWSeal3, FWSpc, FWSpc2, FWSpc3, FWSpc4, FWSpc5, FUSort, FUSort2, FUSort3, FUSort4, FWSeq, FWSeq2, FWSeq3, FWSpc6, FWExo, FWExo2, FWExo3, FWExo4, FWExo5, FWExo6, FWLoad, FWLoad2, FWLoad3, FWLoad4, FWLoad5, FWLoad6, FWLoad7, FWBt, FWBt2, FWBt3, WInsn, WRef4, WSha, WSha2, WRef2, WMac, WBuild, WSlot, WRep, WSlot2, WSlot3, WSlot4. No condition but what each theorem names. -/
import Derived.Test.YtbjhccnffacbcaaGreatQf1085451
import Derived.Test.YtbjhccnffacbcaaGreatQ1d55fcbc
import Derived.Test.YtbjhccnffacbcaaGreatQa8c57553
import Derived.Test.YtbjhccnffacbcaaGreatChecked
import Derived.Test.YtbjhccnffacbcaaGreatQ17bab6b1
import Derived.Test.YtbjhccnffacbcaaGreatQ36a60414
import Derived.Shelf.Strings.Repeat
import Derived.Ground.Names2Prog
import Derived.Test.YtbjhccnffacbcaaGreatProg
set_option maxRecDepth 100000
set_option maxHeartbeats 8000000
namespace Go.Proofs.YtbjhccnffacbcaaGreat
open Go.Owl
namespace Fa
theorem C187:callB Tryz.prog 187=true:=by kernel_rfl
theorem I5:tiB Tryz.prog 5=some ([(vU8 0)],1,1):=by kernel_rfl
theorem C226:callB Tryz.prog 226=true:=by kernel_rfl
theorem C228:callB Tryz.prog 228=true:=by kernel_rfl
theorem C243:callB Tryz.prog 243=true:=by kernel_rfl
theorem C244:callB Tryz.prog 244=true:=by kernel_rfl
theorem C245:callB Tryz.prog 245=true:=by kernel_rfl
theorem F325_0:faB Tryz.prog 325 0=some (0,8,false):=by kernel_rfl
theorem F325_1:faB Tryz.prog 325 1=some (8,1,true):=by kernel_rfl
theorem F325_2:faB Tryz.prog 325 2=some (9,1,true):=by kernel_rfl
theorem I114:tiB Tryz.prog 114=some ([(.slice none 0 0)],1,24):=by kernel_rfl
theorem I22:tiB Tryz.prog 22=some ([(vU32 0)],1,4):=by kernel_rfl
theorem I3:tiB Tryz.prog 3=some ([(vN 0)],1,8):=by kernel_rfl
theorem I322:tiB Tryz.prog 322=some ([(vU32 0),(vU32 0),(vU32 0),(vU32 0),(vU32 0),(vU32 0),(vU32 0),(vU32 0)],8,32):=by kernel_rfl
theorem I325:tiB Tryz.prog 325=some ([(vU32 0),(vU32 0),(vU32 0),(vU32 0),(vU32 0),(vU32 0),(vU32 0),(vU32 0),(.slice none 0 0),(vN 0)],10,64):=by kernel_rfl
theorem I344:tiB Tryz.prog 344=some ((List.replicate 64 (vU32 0)),64,256):=by kernel_rfl
theorem I9:tiB Tryz.prog 9=some ([(str [])],1,16):=by kernel_rfl
theorem M:Tryz.prog.follows .mixedOrders=true:=by kernel_rfl
theorem PL325:plB Tryz.prog 325=some [(0,8),(8,1),(9,1)]:=by kernel_rfl
theorem PT290:Tryz.prog.underlying 290=some (.pointer (Tryz.prog.pointee 290)):=by kernel_rfl
theorem C191:callB Tryz.prog 191=true:=by kernel_rfl
theorem C193:callB Tryz.prog 193=true:=by kernel_rfl
theorem C195:callB Tryz.prog 195=true:=by kernel_rfl
theorem C112:callB Tryz.prog 112=true:=by kernel_rfl
theorem C153:callB Tryz.prog 153=true:=by kernel_rfl
theorem C154:callB Tryz.prog 154=true:=by kernel_rfl
theorem C155:callB Tryz.prog 155=true:=by kernel_rfl
theorem C192:callB Tryz.prog 192=true:=by kernel_rfl
theorem C194:callB Tryz.prog 194=true:=by kernel_rfl
theorem C227:callB Tryz.prog 227=true:=by kernel_rfl
theorem F293_0:faB Tryz.prog 293 0=some (0,1,true):=by kernel_rfl
theorem F293_1:faB Tryz.prog 293 1=some (1,1,true):=by kernel_rfl
theorem I293:tiB Tryz.prog 293=some ([(.pointer none),(str [])],2,24):=by kernel_rfl
theorem PL293:plB Tryz.prog 293=some [(0,1),(1,1)]:=by kernel_rfl
theorem PT245:Tryz.prog.underlying 245=some (.pointer (Tryz.prog.pointee 245)):=by kernel_rfl
theorem C150:callB Tryz.prog 150=true:=by kernel_rfl
theorem CO175:Tryz.prog.cellsOf 175=2:=by kernel_rfl
theorem CO5:Tryz.prog.cellsOf 5=1:=by kernel_rfl
theorem F175_0:faB Tryz.prog 175 0=some (0,1,true):=by kernel_rfl
theorem F175_1:faB Tryz.prog 175 1=some (1,1,true):=by kernel_rfl
theorem I173:tiB Tryz.prog 173=some ([(.pointer none)],1,8):=by kernel_rfl
theorem PT173:Tryz.prog.underlying 173=some (.pointer (Tryz.prog.pointee 173)):=by kernel_rfl
theorem C119:callB Tryz.prog 119=true:=by kernel_rfl
theorem C58:callB Tryz.prog 58=true:=by kernel_rfl
theorem C67:callB Tryz.prog 67=true:=by kernel_rfl
theorem C69:callB Tryz.prog 69=true:=by kernel_rfl
theorem F146_0:faB Tryz.prog 146 0=some (0,1,true):=by kernel_rfl
theorem F193_3:faB Tryz.prog 193 3=some (4,1,true):=by kernel_rfl
theorem I59:tiB Tryz.prog 59=some ([(.slice none 0 0)],1,24):=by kernel_rfl
theorem PT111:Tryz.prog.underlying 111=some (.pointer (Tryz.prog.pointee 111)):=by kernel_rfl
theorem PT201:Tryz.prog.underlying 201=some (.pointer (Tryz.prog.pointee 201)):=by kernel_rfl
theorem PT47:Tryz.prog.underlying 47=some (.pointer (Tryz.prog.pointee 47)):=by kernel_rfl
theorem C106:callB Tryz.prog 106=true:=by kernel_rfl
theorem C107:callB Tryz.prog 107=true:=by kernel_rfl
theorem C108:callB Tryz.prog 108=true:=by kernel_rfl
theorem C109:callB Tryz.prog 109=true:=by kernel_rfl
theorem C110:callB Tryz.prog 110=true:=by kernel_rfl
theorem C111:callB Tryz.prog 111=true:=by kernel_rfl
theorem C12:callB Tryz.prog 12=true:=by kernel_rfl
theorem C151:callB Tryz.prog 151=true:=by kernel_rfl
theorem C152:callB Tryz.prog 152=true:=by kernel_rfl
theorem C29:callB Tryz.prog 29=true:=by kernel_rfl
theorem C47:callB Tryz.prog 47=true:=by kernel_rfl
theorem C48:callB Tryz.prog 48=true:=by kernel_rfl
theorem C49:callB Tryz.prog 49=true:=by kernel_rfl
theorem F95_0:faB Tryz.prog 95 0=some (0,1,true):=by kernel_rfl
theorem F95_1:faB Tryz.prog 95 1=some (1,1,true):=by kernel_rfl
theorem F95_2:faB Tryz.prog 95 2=some (2,1,true):=by kernel_rfl
theorem F95_3:faB Tryz.prog 95 3=some (3,1,true):=by kernel_rfl
theorem F95_4:faB Tryz.prog 95 4=some (4,1,true):=by kernel_rfl
theorem F97_0:faB Tryz.prog 97 0=some (0,1,true):=by kernel_rfl
theorem F97_1:faB Tryz.prog 97 1=some (1,1,true):=by kernel_rfl
theorem I175:tiB Tryz.prog 175=some ([(.pointer none),(.slice none 0 0)],2,32):=by kernel_rfl
theorem I97:tiB Tryz.prog 97=some ([(.pointer none),(vN 0)],2,16):=by kernel_rfl
theorem LI175_175:liesAt Tryz.prog Tryz.prog.depth 175 1 0 175 1=true:=by kernel_rfl
theorem PL97:plB Tryz.prog 97=some [(0,1),(1,1)]:=by kernel_rfl
theorem PT24:Tryz.prog.underlying 24=some (.pointer (Tryz.prog.pointee 24)):=by kernel_rfl
theorem C27:callB Tryz.prog 27=true:=by kernel_rfl
theorem C51:callB Tryz.prog 51=true:=by kernel_rfl
theorem I23:tiB Tryz.prog 23=some ([.nilFunc],1,8):=by kernel_rfl
theorem C50:callB Tryz.prog 50=true:=by kernel_rfl
theorem C52:callB Tryz.prog 52=true:=by kernel_rfl
theorem C53:callB Tryz.prog 53=true:=by kernel_rfl
theorem C13:callB Tryz.prog 13=true:=by kernel_rfl
theorem C15:callB Tryz.prog 15=true:=by kernel_rfl
theorem C54:callB Tryz.prog 54=true:=by kernel_rfl
theorem C127:callB Tryz.prog 127=true:=by kernel_rfl
theorem C168:callB Tryz.prog 168=true:=by kernel_rfl
theorem C169:callB Tryz.prog 169=true:=by kernel_rfl
theorem F75_0:faB Tryz.prog 75 0=some (0,1,true):=by kernel_rfl
theorem F75_1:faB Tryz.prog 75 1=some (1,1,true):=by kernel_rfl
theorem I196:tiB Tryz.prog 196=some ([(vU32 0),(.slice none 0 0),(.map none)],3,40):=by kernel_rfl
theorem I264:tiB Tryz.prog 264=some ([(.map none),(.slice none 0 0),(vN 0)],3,40):=by kernel_rfl
theorem I73:tiB Tryz.prog 73=some ([(.slice none 0 0)],1,24):=by kernel_rfl
theorem I75:tiB Tryz.prog 75=some ([(vU32 0),(.slice none 0 0)],2,32):=by kernel_rfl
theorem PL196:plB Tryz.prog 196=some [(0,2),(2,1)]:=by kernel_rfl
theorem PL264:plB Tryz.prog 264=some [(0,1),(1,1),(2,1)]:=by kernel_rfl
theorem C126:callB Tryz.prog 126=true:=by kernel_rfl
theorem C128:callB Tryz.prog 128=true:=by kernel_rfl
theorem C129:callB Tryz.prog 129=true:=by kernel_rfl
theorem C83:callB Tryz.prog 83=true:=by kernel_rfl
theorem I146:tiB Tryz.prog 146=some ([(.pointer none),(.bool false),(vN 0),(.pointer none),(.bool false),(vN 0),(.pointer none),(.bool false),(vN 0),(.pointer none),(.bool false),(vN 0),(.pointer none),(.bool false),(vN 0),(.pointer none),(.bool false),(vN 0),(.pointer none),(.bool false),(vN 0),(.pointer none),(.bool false),(vN 0),(.pointer none),(.bool false),(vN 0),(.pointer none),(.slice none 0 0)],29,248):=by kernel_rfl
theorem I191:tiB Tryz.prog 191=some ([(.slice none 0 0)],1,24):=by kernel_rfl
theorem I193:tiB Tryz.prog 193=some ([(vU32 0),(.slice none 0 0),(.pointer none),(.pointer none),(.slice none 0 0),(vU32 0)],6,80):=by kernel_rfl
theorem I95:tiB Tryz.prog 95=some ([(.pointer none),(vU32 0),(str []),(vN 0),(vN 0)],5,48):=by kernel_rfl
theorem PL146:plB Tryz.prog 146=some [(0,1),(1,27),(28,1)]:=by kernel_rfl
theorem PL193:plB Tryz.prog 193=some [(0,2),(2,1),(3,1),(4,1),(5,1)]:=by kernel_rfl
theorem PL95:plB Tryz.prog 95=some [(0,1),(1,1),(2,1),(3,1),(4,1)]:=by kernel_rfl
theorem C11:callB Tryz.prog 11=true:=by kernel_rfl
theorem C16:callB Tryz.prog 16=true:=by kernel_rfl
theorem C17:callB Tryz.prog 17=true:=by kernel_rfl
theorem C20:callB Tryz.prog 20=true:=by kernel_rfl
theorem C37:callB Tryz.prog 37=true:=by kernel_rfl
theorem PL75:plB Tryz.prog 75=some [(0,1),(1,1)]:=by kernel_rfl
theorem C10:callB Tryz.prog 10=true:=by kernel_rfl
theorem C14:callB Tryz.prog 14=true:=by kernel_rfl
theorem F196_0:faB Tryz.prog 196 0=some (0,2,false):=by kernel_rfl
theorem F196_1:faB Tryz.prog 196 1=some (2,1,true):=by kernel_rfl
theorem F199_0:faB Tryz.prog 199 0=some (0,4,false):=by kernel_rfl
theorem F199_1:faB Tryz.prog 199 1=some (4,1,true):=by kernel_rfl
theorem F40_0:faB Tryz.prog 40 0=some (0,1,true):=by kernel_rfl
theorem I199:tiB Tryz.prog 199=some ([(vU32 0),(.slice none 0 0),(.slice none 0 0),(.bool false),(vU32 0),(vU32 0)],6,72):=by kernel_rfl
theorem PL199:plB Tryz.prog 199=some [(0,4),(4,1),(5,1)]:=by kernel_rfl
theorem PT110:Tryz.prog.underlying 110=some (.pointer (Tryz.prog.pointee 110)):=by kernel_rfl
theorem PT197:Tryz.prog.underlying 197=some (.pointer (Tryz.prog.pointee 197)):=by kernel_rfl
theorem Z197:zvB Tryz.prog 197=some (.pointer none):=by kernel_rfl
theorem C135:callB Tryz.prog 135=true:=by kernel_rfl
theorem C136:callB Tryz.prog 136=true:=by kernel_rfl
theorem C137:callB Tryz.prog 137=true:=by kernel_rfl
theorem C138:callB Tryz.prog 138=true:=by kernel_rfl
theorem C139:callB Tryz.prog 139=true:=by kernel_rfl
theorem C140:callB Tryz.prog 140=true:=by kernel_rfl
theorem C141:callB Tryz.prog 141=true:=by kernel_rfl
theorem C177:callB Tryz.prog 177=true:=by kernel_rfl
theorem C178:callB Tryz.prog 178=true:=by kernel_rfl
theorem C179:callB Tryz.prog 179=true:=by kernel_rfl
theorem F207_0:faB Tryz.prog 207 0=some (0,1,true):=by kernel_rfl
theorem F207_1:faB Tryz.prog 207 1=some (1,1,true):=by kernel_rfl
theorem F40_1:faB Tryz.prog 40 1=some (1,1,true):=by kernel_rfl
theorem F40_2:faB Tryz.prog 40 2=some (2,1,true):=by kernel_rfl
theorem I203:tiB Tryz.prog 203=some ([(vU16 0)],1,2):=by kernel_rfl
theorem I207:tiB Tryz.prog 207=some ([(vU32 0),(vU32 0)],2,8):=by kernel_rfl
theorem C234:callB Tryz.prog 234=true:=by kernel_rfl
theorem C248:callB Tryz.prog 248=true:=by kernel_rfl
theorem PL207:plB Tryz.prog 207=some [(0,1),(1,1)]:=by kernel_rfl
theorem C233:callB Tryz.prog 233=true:=by kernel_rfl
theorem C235:callB Tryz.prog 235=true:=by kernel_rfl
theorem I197:tiB Tryz.prog 197=some ([(.pointer none)],1,8):=by kernel_rfl
theorem I40:tiB Tryz.prog 40=some ([(vU32 0),(.slice none 0 0),(.slice none 0 0),(.bool false)],4,64):=by kernel_rfl
theorem C173:callB Tryz.prog 173=true:=by kernel_rfl
theorem C208:callB Tryz.prog 208=true:=by kernel_rfl
theorem C209:callB Tryz.prog 209=true:=by kernel_rfl
theorem C210:callB Tryz.prog 210=true:=by kernel_rfl
theorem C60:callB Tryz.prog 60=true:=by kernel_rfl
theorem I308:tiB Tryz.prog 308=some ([.nilFunc],1,8):=by kernel_rfl
theorem C207:callB Tryz.prog 207=true:=by kernel_rfl
theorem C171:callB Tryz.prog 171=true:=by kernel_rfl
theorem C172:callB Tryz.prog 172=true:=by kernel_rfl
theorem C174:callB Tryz.prog 174=true:=by kernel_rfl
theorem C90:callB Tryz.prog 90=true:=by kernel_rfl
theorem I37:tiB Tryz.prog 37=some ([(.slice none 0 0)],1,24):=by kernel_rfl
theorem I38:tiB Tryz.prog 38=some ([(.slice none 0 0)],1,24):=by kernel_rfl
theorem C197:callB Tryz.prog 197=true:=by kernel_rfl
theorem C198:callB Tryz.prog 198=true:=by kernel_rfl
theorem C199:callB Tryz.prog 199=true:=by kernel_rfl
theorem C201:callB Tryz.prog 201=true:=by kernel_rfl
theorem F296_0:faB Tryz.prog 296 0=some (0,1,true):=by kernel_rfl
theorem F296_1:faB Tryz.prog 296 1=some (1,1,true):=by kernel_rfl
theorem F296_2:faB Tryz.prog 296 2=some (2,1,true):=by kernel_rfl
theorem F298_0:faB Tryz.prog 298 0=some (0,3,false):=by kernel_rfl
theorem I25:tiB Tryz.prog 25=some ([(vN 0)],1,8):=by kernel_rfl
theorem I296:tiB Tryz.prog 296=some ([(str []),(vN 0),(vN 0)],3,32):=by kernel_rfl
theorem I298:tiB Tryz.prog 298=some ([(str []),(vN 0),(vN 0)],3,32):=by kernel_rfl
theorem PL296:plB Tryz.prog 296=some [(0,1),(1,1),(2,1)]:=by kernel_rfl
theorem PL298:plB Tryz.prog 298=some [(0,3)]:=by kernel_rfl
theorem PT251:Tryz.prog.underlying 251=some (.pointer (Tryz.prog.pointee 251)):=by kernel_rfl
theorem C142:callB Tryz.prog 142=true:=by kernel_rfl
theorem C91:callB Tryz.prog 91=true:=by kernel_rfl
theorem C92:callB Tryz.prog 92=true:=by kernel_rfl
theorem F116_0:faB Tryz.prog 116 0=some (0,1,true):=by kernel_rfl
theorem F116_1:faB Tryz.prog 116 1=some (1,1,true):=by kernel_rfl
theorem F116_2:faB Tryz.prog 116 2=some (2,1,true):=by kernel_rfl
theorem F43_0:faB Tryz.prog 43 0=some (0,4,false):=by kernel_rfl
theorem F43_1:faB Tryz.prog 43 1=some (4,1,true):=by kernel_rfl
theorem F43_2:faB Tryz.prog 43 2=some (5,1,true):=by kernel_rfl
theorem I116:tiB Tryz.prog 116=some ([(vU32 0),(vU8 0),(str [])],3,24):=by kernel_rfl
theorem C196:callB Tryz.prog 196=true:=by kernel_rfl
theorem CO249:Tryz.prog.cellsOf 249=2:=by kernel_rfl
theorem F249_0:faB Tryz.prog 249 0=some (0,2,false):=by kernel_rfl
theorem LI249_175:liesAt Tryz.prog Tryz.prog.depth 249 1 0 175 1=true:=by kernel_rfl
theorem C156:callB Tryz.prog 156=true:=by kernel_rfl
theorem C41:callB Tryz.prog 41=true:=by kernel_rfl
theorem F40_3:faB Tryz.prog 40 3=some (3,1,true):=by kernel_rfl
theorem I249:tiB Tryz.prog 249=some ([(.pointer none),(.slice none 0 0)],2,32):=by kernel_rfl
theorem I43:tiB Tryz.prog 43=some ([(vU32 0),(.slice none 0 0),(.slice none 0 0),(.bool false),(vU32 0),(.slice none 0 0)],6,96):=by kernel_rfl
theorem C56:callB Tryz.prog 56=true:=by kernel_rfl
theorem I41:tiB Tryz.prog 41=some ([(.slice none 0 0)],1,24):=by kernel_rfl
theorem C158:callB Tryz.prog 158=true:=by kernel_rfl
theorem C159:callB Tryz.prog 159=true:=by kernel_rfl
theorem C200:callB Tryz.prog 200=true:=by kernel_rfl
theorem F254_0:faB Tryz.prog 254 0=some (0,1,true):=by kernel_rfl
theorem I254:tiB Tryz.prog 254=some ([(.pointer none)],1,8):=by kernel_rfl
theorem PL116:plB Tryz.prog 116=some [(0,1),(1,1),(2,1)]:=by kernel_rfl
theorem C157:callB Tryz.prog 157=true:=by kernel_rfl
theorem C160:callB Tryz.prog 160=true:=by kernel_rfl
theorem C161:callB Tryz.prog 161=true:=by kernel_rfl
theorem I4:tiB Tryz.prog 4=some ([(.bool false)],1,1):=by kernel_rfl
theorem PL254:plB Tryz.prog 254=some [(0,1)]:=by kernel_rfl
theorem PL43:plB Tryz.prog 43=some [(0,4),(4,1),(5,1)]:=by kernel_rfl
theorem C113:callB Tryz.prog 113=true:=by kernel_rfl
theorem C114:callB Tryz.prog 114=true:=by kernel_rfl
theorem C55:callB Tryz.prog 55=true:=by kernel_rfl
theorem F105_0:faB Tryz.prog 105 0=some (0,6,false):=by kernel_rfl
theorem F105_1:faB Tryz.prog 105 1=some (6,1,true):=by kernel_rfl
theorem I105:tiB Tryz.prog 105=some ([(vU32 0),(.slice none 0 0),(.slice none 0 0),(.bool false),(vU32 0),(.slice none 0 0),(str [])],7,112):=by kernel_rfl
theorem PL105:plB Tryz.prog 105=some [(0,6),(6,1)]:=by kernel_rfl
theorem C115:callB Tryz.prog 115=true:=by kernel_rfl
theorem C116:callB Tryz.prog 116=true:=by kernel_rfl
theorem C124:callB Tryz.prog 124=true:=by kernel_rfl
theorem F165_0:faB Tryz.prog 165 0=some (0,1,true):=by kernel_rfl
theorem F211_0:faB Tryz.prog 211 0=some (0,1,true):=by kernel_rfl
theorem I165:tiB Tryz.prog 165=some ([(.map none)],1,8):=by kernel_rfl
theorem PL165:plB Tryz.prog 165=some [(0,1)]:=by kernel_rfl
theorem PT163:Tryz.prog.underlying 163=some (.pointer (Tryz.prog.pointee 163)):=by kernel_rfl
theorem Z163:zvB Tryz.prog 163=some (.pointer none):=by kernel_rfl
theorem C167:callB Tryz.prog 167=true:=by kernel_rfl
theorem F211_1:faB Tryz.prog 211 1=some (1,256,false):=by kernel_rfl
theorem PT68:Tryz.prog.underlying 68=some (.pointer (Tryz.prog.pointee 68)):=by kernel_rfl
theorem C165:callB Tryz.prog 165=true:=by kernel_rfl
theorem C166:callB Tryz.prog 166=true:=by kernel_rfl
theorem I211:tiB Tryz.prog 211=some ((List.replicate 257 (vU8 0)),257,257):=by kernel_rfl
theorem PL211:plB Tryz.prog 211=some [(0,1),(1,256)]:=by kernel_rfl
theorem C122:callB Tryz.prog 122=true:=by kernel_rfl
theorem C123:callB Tryz.prog 123=true:=by kernel_rfl
theorem F125_1:faB Tryz.prog 125 1=some (6,1,true):=by kernel_rfl
theorem C73:callB Tryz.prog 73=true:=by kernel_rfl
theorem C74:callB Tryz.prog 74=true:=by kernel_rfl
theorem F125_0:faB Tryz.prog 125 0=some (0,6,false):=by kernel_rfl
theorem I125:tiB Tryz.prog 125=some ([(vU32 0),(.slice none 0 0),(.slice none 0 0),(.bool false),(vU32 0),(.slice none 0 0),(.pointer none)],7,104):=by kernel_rfl
theorem PL125:plB Tryz.prog 125=some [(0,6),(6,1)]:=by kernel_rfl
theorem C217:callB Tryz.prog 217=true:=by kernel_rfl
theorem C241:callB Tryz.prog 241=true:=by kernel_rfl
theorem C236:callB Tryz.prog 236=true:=by kernel_rfl
theorem C239:callB Tryz.prog 239=true:=by kernel_rfl
theorem C240:callB Tryz.prog 240=true:=by kernel_rfl
theorem C249:callB Tryz.prog 249=true:=by kernel_rfl
theorem C182:callB Tryz.prog 182=true:=by kernel_rfl
theorem C221:callB Tryz.prog 221=true:=by kernel_rfl
theorem C237:callB Tryz.prog 237=true:=by kernel_rfl
theorem C238:callB Tryz.prog 238=true:=by kernel_rfl
theorem I337:tiB Tryz.prog 337=some ([(vU64 0)],1,8):=by kernel_rfl
theorem C181:callB Tryz.prog 181=true:=by kernel_rfl
theorem C211:callB Tryz.prog 211=true:=by kernel_rfl
theorem C212:callB Tryz.prog 212=true:=by kernel_rfl
theorem C213:callB Tryz.prog 213=true:=by kernel_rfl
theorem C214:callB Tryz.prog 214=true:=by kernel_rfl
theorem C215:callB Tryz.prog 215=true:=by kernel_rfl
theorem C216:callB Tryz.prog 216=true:=by kernel_rfl
theorem C218:callB Tryz.prog 218=true:=by kernel_rfl
theorem C219:callB Tryz.prog 219=true:=by kernel_rfl
theorem C145:callB Tryz.prog 145=true:=by kernel_rfl
theorem C180:callB Tryz.prog 180=true:=by kernel_rfl
theorem C143:callB Tryz.prog 143=true:=by kernel_rfl
theorem C144:callB Tryz.prog 144=true:=by kernel_rfl
theorem C95:callB Tryz.prog 95=true:=by kernel_rfl
theorem C96:callB Tryz.prog 96=true:=by kernel_rfl
theorem I209:tiB Tryz.prog 209=some ((List.replicate 256 (vU8 0)),256,256):=by kernel_rfl
theorem C175:callB Tryz.prog 175=true:=by kernel_rfl
theorem C176:callB Tryz.prog 176=true:=by kernel_rfl
theorem I120:tiB Tryz.prog 120=some ([(vU8 0),(vU32 0),(vN 0)],3,16):=by kernel_rfl
theorem I234:tiB Tryz.prog 234=some ([(.pointer none),(.slice none 0 0)],2,32):=by kernel_rfl
theorem I236:tiB Tryz.prog 236=some ([(.pointer none),(.slice none 0 0),(.pointer none),(vN 0),(vU8 0),(vU32 0),(vN 0),(str [])],8,80):=by kernel_rfl
theorem I242:tiB Tryz.prog 242=some ([(vU32 0),(vU32 0),(vU32 0),(vU32 0),(vU32 0),(vU32 0),(vU32 0),(vU32 0),(vU32 0),(vU32 0),(vU32 0),(vU32 0),(vU32 0),(vU32 0),(vU32 0),(vU32 0),(vU32 0)],17,68):=by kernel_rfl
theorem PL120:plB Tryz.prog 120=some [(0,1),(1,1),(2,1)]:=by kernel_rfl
theorem PL234:plB Tryz.prog 234=some [(0,1),(1,1)]:=by kernel_rfl
theorem PL236:plB Tryz.prog 236=some [(0,2),(2,1),(3,1),(4,3),(7,1)]:=by kernel_rfl
theorem PL242:plB Tryz.prog 242=some [(0,16),(16,1)]:=by kernel_rfl
theorem C104:callB Tryz.prog 104=true:=by kernel_rfl
theorem C59:callB Tryz.prog 59=true:=by kernel_rfl
theorem F142_0:faB Tryz.prog 142 0=some (0,1,true):=by kernel_rfl
theorem F142_2:faB Tryz.prog 142 2=some (2,1,true):=by kernel_rfl
theorem F146_1:faB Tryz.prog 146 1=some (1,27,false):=by kernel_rfl
theorem F193_1:faB Tryz.prog 193 1=some (2,1,true):=by kernel_rfl
theorem I142:tiB Tryz.prog 142=some ([(.bool false),(vN 0),(.pointer none)],3,24):=by kernel_rfl
theorem PT140:Tryz.prog.underlying 140=some (.pointer (Tryz.prog.pointee 140)):=by kernel_rfl
theorem C132:callB Tryz.prog 132=true:=by kernel_rfl
theorem PL142:plB Tryz.prog 142=some [(0,1),(1,1),(2,1)]:=by kernel_rfl
theorem C133:callB Tryz.prog 133=true:=by kernel_rfl
theorem C134:callB Tryz.prog 134=true:=by kernel_rfl
theorem C44:callB Tryz.prog 44=true:=by kernel_rfl
theorem F142_1:faB Tryz.prog 142 1=some (1,1,true):=by kernel_rfl
theorem I140:tiB Tryz.prog 140=some ([(.pointer none)],1,8):=by kernel_rfl
theorem C32:callB Tryz.prog 32=true:=by kernel_rfl
theorem C86:callB Tryz.prog 86=true:=by kernel_rfl
theorem C87:callB Tryz.prog 87=true:=by kernel_rfl
theorem C88:callB Tryz.prog 88=true:=by kernel_rfl
theorem C89:callB Tryz.prog 89=true:=by kernel_rfl
theorem C40:callB Tryz.prog 40=true:=by kernel_rfl
theorem C57:callB Tryz.prog 57=true:=by kernel_rfl
theorem C18:callB Tryz.prog 18=true:=by kernel_rfl
theorem C21:callB Tryz.prog 21=true:=by kernel_rfl
theorem C22:callB Tryz.prog 22=true:=by kernel_rfl
theorem C19:callB Tryz.prog 19=true:=by kernel_rfl
end Fa
end Go.Proofs.YtbjhccnffacbcaaGreat
namespace Go.Proofs.YtbjhccnffacbcaaGreat
open Go.Owl Go.Spec
theorem text_ok (v:Value) (m:Nat) (l:List UInt8) (w:World) (hA:Arr w v 1 m (l.map vU8)) :
  Calls Tryz.prog 187 #[v] w (fun e w'=>e=.returned (str l)∧Fr [] w w'):=by
 refine enter Tryz.func187 rfl rfl ?_
 have H0:=Own.start w []
 exact ws<|wa rfl<|wn<|ws<|wm rfl<|wo (op_bytesStr (l:=l) Tryz.underlying114 Tryz.underlying5 Tryz.underlying9 rfl (H0.arr hA) rfl<|wa rfl<|wn<|WC.ret<|WQ.out (.tmp rfl .nil) (⟨rfl,H0.fr⟩))
theorem put4_ok (v:UInt32) (w:World) :
  Calls Tryz.prog 151 #[(vU32 v),(vN 4)] w (fun e w'=>e=.returned (.tuple #[str (le4 v),vN 0])∧Fr [] w w'):=by
 refine enter Tryz.func151 rfl rfl ?_
 have H0:=Own.start w []
 exact ws<|wa rfl<|wa rfl<|wn<|WC.seq<|WC.block<|ws<|wm rfl<|wo (op_lssN (b:=1) rfl rfl<|wm rfl<|WL.yes rfl rfl rfl (by decide) rfl (op_move rfl<|WL.yes rfl rfl rfl (by decide) rfl (op_gtrN (b:=4) rfl rfl<|wo (op_pickF rfl (by decide) rfl<|wa rfl<|wn<|WC.no rfl (by decide)<|ws<|wm rfl<|wo (op_lssN (b:=4) rfl rfl<|wm rfl<|WL.no rfl rfl rfl (by decide) rfl<|WL.no rfl rfl rfl (by decide) rfl<|WL.no rfl rfl rfl (by decide) rfl<|WL.no rfl rfl rfl (by decide) rfl<|WL.no rfl rfl rfl (by decide) rfl<|wo (op_pickF rfl (by decide) rfl<|wa rfl<|wn<|WC.no rfl rfl<|WC.skip<|WQ.inNormal<|WQ.next<|ws<|wm rfl<|wo (op_convU32U8 (hs:=Tryz.underlying22) (hd:=Tryz.underlying5) rfl<|wm rfl<|wo (op_shrU32 (s:=8) rfl rfl<|wo (op_convU32U8 (hs:=Tryz.underlying22) (hd:=Tryz.underlying5) rfl<|wm rfl<|wo (op_shrU32 (s:=16) rfl rfl<|wo (op_convU32U8 (hs:=Tryz.underlying22) (hd:=Tryz.underlying5) rfl<|wm rfl<|wo (op_shrU32 (s:=24) rfl rfl<|wo (op_convU32U8 (hs:=Tryz.underlying22) (hd:=Tryz.underlying5) rfl<|wo (op_buildSlice (cs:=[_,_,_,_]) H0 Tryz.underlying114 Fa.I5 rfl rfl rfl rfl (by decide) (by decide) (fun b1 w1 H1=>(wm rfl<|wo (op_cutHi Tryz.underlying114 Fa.I5 rfl (H1.arrR (i:=0) rfl) rfl (by omega)<|wo (cq H1 Fa.C187 rfl (text_ok _ _ (([(UInt8.ofNat v.toNat),(UInt8.ofNat (shrU32 v 8).toNat),(UInt8.ofNat (shrU32 v 16).toNat),(UInt8.ofNat (shrU32 v 24).toNat)].take 4)) _ (((H1.arrR (i:=0) rfl)).cutHiM (f:=vU8) (l:=[(UInt8.ofNat v.toNat),(UInt8.ofNat (shrU32 v 8).toNat),(UInt8.ofNat (shrU32 v 16).toNat),(UInt8.ofNat (shrU32 v 24).toNat)]) (b:=4) (by omega))) fun w2 H2=>(wa rfl<|wa rfl<|wn<|WC.ret<|WQ.out (.tmp rfl (.tmp rfl .nil)) (⟨rfl,H2.fr⟩))))))))))))))))))))
theorem get_ok (s:List UInt8) (w:World) :
  Calls Tryz.prog 107 #[(str s)] w (fun e w'=>e=.returned (.tuple #[vU32 (getV s),vN (getE s)])∧Fr [] w w'):=by
 refine enter Tryz.func107 rfl rfl ?_
 have H0:=Own.start w []
 refine ws<|wa rfl<|wa rfl<|wn<|WC.seq<|ws<|wm rfl<|wo (op_lenStr Tryz.underlying9 rfl<|wo (op_lssN (b:=1) rfl rfl<|wm rfl (wF 8 (s.length<1) (fun hb1 hc1=>?_) (fun hb1 hc1=>?_))))
 ·
  exact wN hb1<|wN hb1<|wN hb1<|wo (op_pickT rfl hb1 rfl<|wn<|WC.yes rfl rfl<|ws<|wa rfl<|wa rfl<|wn<|WC.ret<|WQ.thenRet<|WQ.out (.tmp rfl (.tmp rfl .nil)) (⟨by first | (have hk:k=s.length:=(by omega); subst hk; rw [getV,getE,if_neg (by omega),if_neg (by omega)]; rfl) | (rw [getV,getE,if_pos (by omega),if_pos (by omega)]; rfl),H0.fr⟩))
 refine wY hb1 (op_move rfl<|wY hb1 (op_lenStr Tryz.underlying9 rfl<|wY hb1 (op_gtrN (b:=4) rfl rfl<|wo (op_pickF rfl hb1 rfl<|wn (wE (s.length>4) (fun hb2 hc2=>?_) (fun hb2 hc2=>?_))))))
 ·
  exact ws<|wa rfl<|wa rfl<|wn<|WC.ret<|WQ.thenRet<|WQ.out (.tmp rfl (.tmp rfl .nil)) (⟨by first | (have hk:k=s.length:=(by omega); subst hk; rw [getV,getE,if_neg (by omega),if_neg (by omega)]; rfl) | (rw [getV,getE,if_pos (by omega),if_pos (by omega)]; rfl),H0.fr⟩)
 refine WC.skip<|WQ.next<|WC.seq<|ws<|wm rfl<|wo (op_lenStr Tryz.underlying9 rfl<|wm rfl<|wn<|WC.block<|WC.loop (α:=Nat) (fun k=>[(0,(str s)),(3,(vN 0)),(14,(vN s.length)),(15,(vN k)),(2,(vU32 (getTo s k)))]) (fun k w'=>(k≤s.length)∧Owl.Own [] w w' []) (fun k=>s.length-k) 0 ⟨(by omega),H0⟩ ⟨rfl,rfl,rfl,rfl,rfl,trivial⟩ ?_)
 rintro k w3 ⟨hinv,H3⟩
 show WC _ _ _ _ _ [(0,(str s)),(3,(vN 0)),(14,(vN s.length)),(15,(vN k)),(2,(vU32 (getTo s k)))] _
 refine ws<|wo (op_lssN rfl rfl<|wn<|WC.seq (wE (k<s.length) (fun hb4 hc4=>?_) (fun hb4 hc4=>?_)))
 ·
  exact WC.skip<|WQ.next<|WC.seq<|WC.block<|ws<|wm rfl<|wa rfl<|wn<|WC.region<|wm rfl<|wm rfl<|wm rfl<|wo (op_indexStrD Tryz.underlying9 rfl rfl (by omega)<|wo (op_convU8U32 (hs:=Tryz.underlying5) (hd:=Tryz.underlying22) rfl<|wm rfl<|wo (op_mulN (a:=8) rfl rfl (by omega)<|wo (op_shlU32 rfl rfl<|wo (op_orU32 rfl rfl<|wa rfl<|WL.nil<|WQ.inNormal<|WQ.next<|WC.region<|wo (op_addN (b:=1) rfl rfl (by omega)<|wm rfl<|WL.nil<|WQ.round (k+1) ⟨(by omega),H3⟩ ⟨rfl,rfl,rfl,rfl,rfl,trivial⟩ (by omega)))))))
 exact WC.exit<|WQ.thenExit<|WQ.thenExit<|WQ.inHere<|WQ.next<|ws<|wm rfl<|wa rfl<|wa rfl<|wn<|WC.ret<|WQ.out (.tmp rfl (.tmp rfl .nil)) (⟨by first | (have hk:k=s.length:=(by omega); subst hk; rw [getV,getE,if_neg (by omega),if_neg (by omega)]; rfl) | (rw [getV,getE,if_pos (by omega),if_pos (by omega)]; rfl),H3.fr⟩)
theorem turn_ok (x:UInt32) (n:Nat) (hn:n≤32) (w:World) :
  Calls Tryz.prog 245 #[(vU32 x),(vN n)] w (fun e w'=>e=.returned (vU32 (rot x n))∧Fr [] w w'):=by
 refine enter Tryz.func245 rfl rfl ?_
 have H0:=Own.start w []
 refine ws<|wa rfl<|wn<|WC.seq<|WC.draw 9 Fa.M H0 (mh rfl<|mh rfl<|oh (fun w1 H1=>op_shrU32 rfl rfl zr)<|mh rfl<|mh rfl<|oh (fun w1 H1=>op_subN (a:=32) rfl rfl (by omega) (by omega) zr)<|oh (fun w1 H1=>op_shlU32 rfl rfl zr)<|oh (fun w1 H1=>op_orU32 rfl rfl zr)<|ah rfl  HW.nil) (by kernel_rfl) ?_
 intro β1 w1 H1
 exact wn<|WC.ret<|WQ.out (.tmp rfl .nil) (⟨rfl,H1.fr⟩)
theorem first_ok  (w:World) :
  Calls Tryz.prog 226 #[] w (fun e w'=>e=.returned (.agg #[vU32 firstS.a,vU32 firstS.b,vU32 firstS.c,vU32 firstS.d,vU32 firstS.e,vU32 firstS.f,vU32 firstS.g,vU32 firstS.h])∧Fr [] w w'):=by
 refine enter Tryz.func226 rfl rfl ?_
 have H0:=Own.start w []
 exact ws<|wo (op_alloc H0 Fa.I322 (fun b1 w1 H1=>(wn<|ws<|wo (op_buildA (cs:=[_,_,_,_,_,_,_,_]) Fa.I322 Tryz.underlying322 Fa.I22 rfl rfl<|wo (op_storeBW (i:=0) H1 rfl rfl rfl rfl rfl Fa.I322 (fun w2 H2=>(wn<|WC.ret<|WQ.out (.cell rfl (run_loadVarS (vs:=[_,_,_,_,_,_,_,_]) (H2.cells (i:=0) rfl rfl) Tryz.underlying322 rfl Fa.I322 rfl) .nil) (⟨rfl,H2.fr⟩))))))))
theorem keys_ok  (w:World) :
  Calls Tryz.prog 244 #[] w (fun e w'=>e=.returned (.agg (keyL.map vU32).toArray)∧Fr [] w w'):=by
 refine enter Tryz.func244 rfl rfl ?_
 have H0:=Own.start w []
 exact ws<|wo (op_alloc H0 Fa.I344 (fun b1 w1 H1=>(wn<|ws<|wo (op_buildA (cs:=keyL.map vU32) Fa.I344 Tryz.underlying344 Fa.I22 rfl (by kernel_rfl)<|wo (op_storeBV (i:=0) H1 rfl rfl rfl (by kernel_rfl) (one_U32 _) (by kernel_rfl) Fa.I344 (fun w2 H2=>(wn<|WC.ret<|WQ.out (.cell rfl (run_loadVarS (H2.cellsW (i:=0) rfl) Tryz.underlying344 rfl Fa.I344 (by kernel_rfl)) .nil) (⟨rfl,H2.fr⟩))))))))
theorem words_ok (v:Value) (b:List UInt8) (w:World) (hl:b.length=64) (hA:Arr w v 1 64 (b.map vU8)) :
  Calls Tryz.prog 243 #[v] w (fun e w'=>e=.returned (.agg ((wl b 64).map vU32).toArray)∧Fr [] w w'):=by
 refine enter Tryz.func243 rfl rfl ?_
 have H0:=Own.start w []
 refine ws<|wo (op_alloc H0 Fa.I344 (fun b1 w1 H1=>(wn<|WC.seq<|ws<|wm rfl<|wn<|WC.block<|WC.loop (α:=Nat) (fun k=>[(0,v),(2,(ptr b1 0)),(7,(vN k))]) (fun k w'=>(k≤16)∧Owl.Own [] w w' [.blk b1 (wC b k) 344]) (fun k=>16-k) 0 ⟨(by omega),H1⟩ ⟨rfl,rfl,rfl,trivial⟩ ?_)))
 rintro k w2 ⟨hinv,H2⟩
 show WC _ _ _ _ _ [(0,v),(2,(ptr b1 0)),(7,(vN k))] _
 refine ws<|wo (op_lssN (b:=16) rfl rfl<|wn<|WC.seq (wE (k<16) (fun hb3 hc3=>?_) (fun hb3 hc3=>?_)))
 ·
  refine WC.skip<|WQ.next<|WC.seq<|WC.block<|ws<|wm rfl<|wa rfl<|wn<|WC.draw 35 Fa.M H2 (mh rfl<|mh rfl<|mh rfl<|oh (fun w1 H1=>op_mulN (a:=4) rfl rfl (by omega) zr)<|oh (fun w1 H1=>op_indexAddr1 Tryz.underlying114 Fa.I5 rfl (H1.arr hA) rfl (by omega) zr)<|oh (fun w1 H1=>op_load rfl ((H1.arr hA).at (get_map vU8 0 (by omega))) Tryz.underlying5 rfl zr)<|oh (fun w1 H1=>op_convU8U32 (hs:=Tryz.underlying5) (hd:=Tryz.underlying22) rfl zr)<|oh (fun w1 H1=>op_shlU32 (s:=24) rfl rfl zr)<|mh rfl<|mh rfl<|oh (fun w1 H1=>op_mulN (a:=4) rfl rfl (by omega) zr)<|oh (fun w1 H1=>op_addN (b:=1) rfl rfl (by omega) zr)<|oh (fun w1 H1=>op_indexAddr1 Tryz.underlying114 Fa.I5 rfl (H1.arr hA) rfl (by omega) zr)<|oh (fun w1 H1=>op_load rfl ((H1.arr hA).at (get_map vU8 0 (by omega))) Tryz.underlying5 rfl zr)<|oh (fun w1 H1=>op_convU8U32 (hs:=Tryz.underlying5) (hd:=Tryz.underlying22) rfl zr)<|oh (fun w1 H1=>op_shlU32 (s:=16) rfl rfl zr)<|oh (fun w1 H1=>op_orU32 rfl rfl zr)<|mh rfl<|mh rfl<|oh (fun w1 H1=>op_mulN (a:=4) rfl rfl (by omega) zr)<|oh (fun w1 H1=>op_addN (b:=2) rfl rfl (by omega) zr)<|oh (fun w1 H1=>op_indexAddr1 Tryz.underlying114 Fa.I5 rfl (H1.arr hA) rfl (by omega) zr)<|oh (fun w1 H1=>op_load rfl ((H1.arr hA).at (get_map vU8 0 (by omega))) Tryz.underlying5 rfl zr)<|oh (fun w1 H1=>op_convU8U32 (hs:=Tryz.underlying5) (hd:=Tryz.underlying22) rfl zr)<|oh (fun w1 H1=>op_shlU32 (s:=8) rfl rfl zr)<|oh (fun w1 H1=>op_orU32 rfl rfl zr)<|mh rfl<|mh rfl<|oh (fun w1 H1=>op_mulN (a:=4) rfl rfl (by omega) zr)<|oh (fun w1 H1=>op_addN (b:=3) rfl rfl (by omega) zr)<|oh (fun w1 H1=>op_indexAddr1 Tryz.underlying114 Fa.I5 rfl (H1.arr hA) rfl (by omega) zr)<|oh (fun w1 H1=>op_load rfl ((H1.arr hA).at (get_map vU8 0 (by omega))) Tryz.underlying5 rfl zr)<|oh (fun w1 H1=>op_convU8U32 (hs:=Tryz.underlying5) (hd:=Tryz.underlying22) rfl zr)<|oh (fun w1 H1=>op_orU32 rfl rfl zr)<|oh (fun w1 H1=>op_indexAddrA1 Tryz.underlying344 Fa.I22 rfl rfl (by omega) zr)  HW.nil) (by kernel_rfl) ?_
  intro β4 w4 H4
  refine wo (op_storeB (i:=0) H4 rfl rfl rfl (by rw [Nat.blt_eq,wC_length _ _ (by omega)]; omega) rfl Fa.I22 (fun w5 H5=>?_))
  exact WL.nil<|WQ.inNormal<|WQ.next<|WC.region<|wo (op_addN (b:=1) rfl rfl (by omega)<|wm rfl<|WL.nil<|WQ.round (k+1) ⟨(by omega),(by rw [wC_set b (k:=k) (by omega),if_pos (by omega)]; exact H5)⟩ ⟨rfl,rfl,rfl,trivial⟩ (by omega))
 refine WC.exit<|WQ.thenExit<|WQ.thenExit<|WQ.inHere<|WQ.next<|WC.seq<|ws<|wa rfl<|wn<|WC.block<|WC.loop (α:=Nat) (fun k=>[(0,v),(2,(ptr b1 0)),(4,(vN k))]) (fun k w'=>((16≤k∧k≤64))∧Owl.Own [] w w' [.blk b1 (wC b k) 344]) (fun k=>64-k) 16 ⟨(by omega),(by have hk:k=16:=(by omega); subst hk; exact H2)⟩ ⟨rfl,rfl,rfl,trivial⟩ ?_
 rintro k w6 ⟨hinv,H6⟩
 show WC _ _ _ _ _ [(0,v),(2,(ptr b1 0)),(4,(vN k))] _
 refine WC.seq<|ws<|wm rfl<|wo (op_lssN (b:=64) rfl rfl<|wn (wE (k<64) (fun hb7 hc7=>?_) (fun hb7 hc7=>?_)))
 ·
  refine WC.skip<|WQ.next<|WC.seq<|WC.block<|WC.seq<|WC.draw 10 Fa.M H6 (mh rfl<|oh (fun w1 H1=>op_subN (b:=15) rfl rfl (by omega) (by omega) zr)<|oh (fun w1 H1=>op_indexAddrA1 Tryz.underlying344 Fa.I22 rfl rfl (by omega) zr)<|oh (fun w1 H1=>op_load rfl (H1.cell (i:=0) rfl (wC_get b (by omega))) Tryz.underlying22 rfl zr)<|mh rfl<|oh (fun w1 H1=>op_subN (b:=2) rfl rfl (by omega) (by omega) zr)<|oh (fun w1 H1=>op_indexAddrA1 Tryz.underlying344 Fa.I22 rfl rfl (by omega) zr)<|oh (fun w1 H1=>op_load rfl (H1.cell (i:=0) rfl (wC_get b (by omega))) Tryz.underlying22 rfl zr)<|ah rfl<|ah rfl  HW.nil) (by kernel_rfl) ?_
  intro β8 w8 H8
  refine wn<|WC.draw 29 Fa.M H8 (mh rfl<|mh rfl<|oh (fun w1 H1=>op_subN (b:=16) rfl rfl (by omega) (by omega) zr)<|oh (fun w1 H1=>op_indexAddrA1 Tryz.underlying344 Fa.I22 rfl rfl (by omega) zr)<|oh (fun w1 H1=>op_load rfl (H1.cell (i:=0) rfl (wC_get b (by omega))) Tryz.underlying22 rfl zr)<|mh rfl<|oh (fun w1 H1=>op_callF Fa.C245 rfl ((turn_ok ((wl b k).getD (k-15) 0) 7 (by decide) _).mono (fun e w2 hq=>⟨_,hq.1,rfl,hq.2⟩)))<|mh rfl<|oh (fun w1 H1=>op_callF Fa.C245 rfl ((turn_ok ((wl b k).getD (k-15) 0) 18 (by decide) _).mono (fun e w2 hq=>⟨_,hq.1,rfl,hq.2⟩)))<|oh (fun w1 H1=>op_xorU32 rfl rfl zr)<|mh rfl<|oh (fun w1 H1=>op_shrU32 (s:=3) rfl rfl zr)<|oh (fun w1 H1=>op_xorU32 rfl rfl zr)<|oh (fun w1 H1=>op_addU32 rfl rfl zr)<|mh rfl<|oh (fun w1 H1=>op_subN (b:=7) rfl rfl (by omega) (by omega) zr)<|oh (fun w1 H1=>op_indexAddrA1 Tryz.underlying344 Fa.I22 rfl rfl (by omega) zr)<|oh (fun w1 H1=>op_load rfl (H1.cell (i:=0) rfl (wC_get b (by omega))) Tryz.underlying22 rfl zr)<|oh (fun w1 H1=>op_addU32 rfl rfl zr)<|mh rfl<|oh (fun w1 H1=>op_callF Fa.C245 rfl ((turn_ok ((wl b k).getD (k-2) 0) 17 (by decide) _).mono (fun e w2 hq=>⟨_,hq.1,rfl,hq.2⟩)))<|mh rfl<|oh (fun w1 H1=>op_callF Fa.C245 rfl ((turn_ok ((wl b k).getD (k-2) 0) 19 (by decide) _).mono (fun e w2 hq=>⟨_,hq.1,rfl,hq.2⟩)))<|oh (fun w1 H1=>op_xorU32 rfl rfl zr)<|mh rfl<|oh (fun w1 H1=>op_shrU32 (s:=10) rfl rfl zr)<|oh (fun w1 H1=>op_xorU32 rfl rfl zr)<|oh (fun w1 H1=>op_addU32 rfl rfl zr)<|oh (fun w1 H1=>op_indexAddrA1 Tryz.underlying344 Fa.I22 rfl rfl (by omega) zr)  HW.nil) (by kernel_rfl) ?_
  intro β13 w13 H13
  refine wo (op_storeB (i:=0) H13 rfl rfl rfl (by rw [Nat.blt_eq,wC_length _ _ (by omega)]; omega) rfl Fa.I22 (fun w14 H14=>?_))
  exact WL.nil<|WQ.inNormal<|WQ.next<|WC.region<|wm rfl<|wo (op_addN (b:=1) rfl rfl (by omega)<|wa rfl<|WL.nil<|WQ.round (k+1) ⟨(by omega),(by rw [wC_set b (k:=k) (by omega),if_neg (by omega)]; exact H14)⟩ ⟨rfl,rfl,rfl,trivial⟩ (by omega))
 refine WC.exit<|WQ.thenExit<|WQ.thenExit<|WQ.inHere<|WQ.next<|ws<|wo (op_loadS rfl (H6.cellsW (i:=0) rfl) Tryz.underlying344 rfl Fa.I344 (wC_length _ _ (by omega))<|wo (op_storeBV (i:=0) H6 rfl rfl rfl (by rw [wC_length _ _ (by omega)]; exact Nat.beq_refl 64) (by have hk:k=64:=(by omega); subst hk; rw [wC_end]; exact one_U32 _) (wC_length _ _ (by omega)) Fa.I344 (fun w15 H15=>?_)))
 exact wn<|WC.ret<|WQ.out (.cell rfl (run_loadVarS (H15.cellsW (i:=0) rfl) Tryz.underlying344 rfl Fa.I344 (wC_length _ _ (by omega))) .nil) (⟨by have hk:k=64:=(by omega); subst hk; rw [←wC_end]; rfl,H15.fr⟩)
theorem block_ok (h:St) (v:Value) (b:List UInt8) (w:World) (hl:b.length=64) (hA:Arr w v 1 64 (b.map vU8)) :
  Calls Tryz.prog 228 #[(.agg #[(vU32 h.a),(vU32 h.b),(vU32 h.c),(vU32 h.d),(vU32 h.e),(vU32 h.f),(vU32 h.g),(vU32 h.h)]),v] w (fun e w'=>e=.returned (.agg #[vU32 (blockS h b).a,vU32 (blockS h b).b,vU32 (blockS h b).c,vU32 (blockS h b).d,vU32 (blockS h b).e,vU32 (blockS h b).f,vU32 (blockS h b).g,vU32 (blockS h b).h])∧Fr [] w w'):=by
 refine enter Tryz.func228 rfl rfl ?_
 have H0:=Own.start w []
 refine ws<|wo (op_box H0 rfl rfl (fun b1 w1 H1=>(wo (op_alloc H1 Fa.I322 (fun b2 w2 H2=>(wn<|WC.seq<|WC.draw 7 Fa.M H2 (oh (fun w1 H1=>op_loadS (vs:=[_,_,_,_,_,_,_,_]) rfl (H1.cells (i:=0) rfl rfl) Tryz.underlying322 rfl Fa.I322 rfl zr)<|mh rfl<|oh (fun w1 H1=>op_callF Fa.C243 rfl ((words_ok _ _ _ hl (H1.arr hA)).mono (fun e w2 hq=>⟨_,hq.1,rfl,hq.2⟩)))<|oh (fun w1 H1=>op_callF Fa.C244 rfl ((keys_ok _).mono (fun e w2 hq=>⟨_,hq.1,rfl,hq.2⟩)))<|HW.flt (mk:=fun bq=>ptr bq.1 0) (ent:=fun bq=>.blk bq.1 _ _) rfl (fun w1 _=>op_alloc (Own.start w1 []) Fa.I322 (fun bq w2 H2=>⟨(bq,undef),rfl,H2,True.intro⟩))<|HW.flt (mk:=fun bq=>ptr bq.1 0) (ent:=fun bq=>.blk bq.1 _ _) rfl (fun w1 _=>op_alloc (Own.start w1 []) Fa.I344 (fun bq w2 H2=>⟨(bq,undef),rfl,H2,True.intro⟩))<|HW.flt (mk:=fun bq=>ptr bq.1 0) (ent:=fun bq=>.blk bq.1 _ _) rfl (fun w1 _=>op_alloc (Own.start w1 []) Fa.I344 (fun bq w2 H2=>⟨(bq,undef),rfl,H2,True.intro⟩))  HW.nil) (by kernel_rfl) ?_))))))
 intro β5 w5 H5
 refine wo (op_storeBW (i:=2) H5 rfl rfl rfl rfl rfl Fa.I322 (fun w6 H6=>(wo (op_storeBV (i:=3) H6 rfl rfl rfl (by rw [List.length_map,wl_length,List.length_replicate]; rfl) (one_U32 _) (by rw [List.length_map,wl_length]) Fa.I344 (fun w7 H7=>(wo (op_storeBV (i:=4) H7 rfl rfl rfl (by kernel_rfl) (one_U32 _) (by kernel_rfl) Fa.I344 (fun w8 H8=>(wn<|WC.seq<|ws<|wm rfl<|wn<|WC.block<|WC.loop (α:=Nat) (fun t=>[(2,(ptr b1 0)),(4,(ptr b2 0)),(5,(ptr (β5 4).1 0)),(6,(ptr (β5 5).1 0)),(7,(ptr (β5 6).1 0)),(16,(vN t))]) (fun t w'=>(t≤64)∧Owl.Own [] w w' [.blk b1 [(vU32 h.a),(vU32 h.b),(vU32 h.c),(vU32 h.d),(vU32 h.e),(vU32 h.f),(vU32 h.g),(vU32 h.h)] 322,.blk b2 [(vU32 0),(vU32 0),(vU32 0),(vU32 0),(vU32 0),(vU32 0),(vU32 0),(vU32 0)] 322,.blk (β5 4).1 [(vU32 (rounds h (wl b 64) t).a),(vU32 (rounds h (wl b 64) t).b),(vU32 (rounds h (wl b 64) t).c),(vU32 (rounds h (wl b 64) t).d),(vU32 (rounds h (wl b 64) t).e),(vU32 (rounds h (wl b 64) t).f),(vU32 (rounds h (wl b 64) t).g),(vU32 (rounds h (wl b 64) t).h)] 322,.blk (β5 5).1 ((wl b 64).map vU32) 344,.blk (β5 6).1 (keyL.map vU32) 344]) (fun t=>64-t) 0 ⟨(by omega),H8⟩ ⟨rfl,rfl,rfl,rfl,rfl,rfl,trivial⟩ ?_)))))))))
 rintro t w9 ⟨hinv,H9⟩
 show WC _ _ _ _ _ [(2,(ptr b1 0)),(4,(ptr b2 0)),(5,(ptr (β5 4).1 0)),(6,(ptr (β5 5).1 0)),(7,(ptr (β5 6).1 0)),(16,(vN t))] _
 refine ws<|wo (op_lssN (b:=64) rfl rfl<|wn<|WC.seq (wE (t<64) (fun hb10 hc10=>?_) (fun hb10 hc10=>?_)))
 ·
  refine WC.skip<|WQ.next<|WC.seq<|WC.block<|ws<|wm rfl<|wa rfl<|wn<|WC.seq<|WC.draw 35 Fa.M H9 (oh (fun w1 H1=>op_indexAddrA1 (m:=7) Tryz.underlying322 Fa.I22 rfl rfl (by omega) zr)<|oh (fun w1 H1=>op_load rfl (H1.cell (i:=2) rfl rfl) Tryz.underlying22 rfl zr)<|oh (fun w1 H1=>op_indexAddrA1 (m:=4) Tryz.underlying322 Fa.I22 rfl rfl (by omega) zr)<|oh (fun w1 H1=>op_load rfl (H1.cell (i:=2) rfl rfl) Tryz.underlying22 rfl zr)<|oh (fun w1 H1=>op_callF Fa.C245 rfl ((turn_ok ((rounds h (wl b 64) t).e) 6 (by decide) _).mono (fun e w2 hq=>⟨_,hq.1,rfl,hq.2⟩)))<|oh (fun w1 H1=>op_indexAddrA1 (m:=4) Tryz.underlying322 Fa.I22 rfl rfl (by omega) zr)<|oh (fun w1 H1=>op_load rfl (H1.cell (i:=2) rfl rfl) Tryz.underlying22 rfl zr)<|oh (fun w1 H1=>op_callF Fa.C245 rfl ((turn_ok ((rounds h (wl b 64) t).e) 11 (by decide) _).mono (fun e w2 hq=>⟨_,hq.1,rfl,hq.2⟩)))<|oh (fun w1 H1=>op_xorU32 rfl rfl zr)<|oh (fun w1 H1=>op_indexAddrA1 (m:=4) Tryz.underlying322 Fa.I22 rfl rfl (by omega) zr)<|oh (fun w1 H1=>op_load rfl (H1.cell (i:=2) rfl rfl) Tryz.underlying22 rfl zr)<|oh (fun w1 H1=>op_callF Fa.C245 rfl ((turn_ok ((rounds h (wl b 64) t).e) 25 (by decide) _).mono (fun e w2 hq=>⟨_,hq.1,rfl,hq.2⟩)))<|oh (fun w1 H1=>op_xorU32 rfl rfl zr)<|oh (fun w1 H1=>op_addU32 rfl rfl zr)<|oh (fun w1 H1=>op_indexAddrA1 (m:=4) Tryz.underlying322 Fa.I22 rfl rfl (by omega) zr)<|oh (fun w1 H1=>op_load rfl (H1.cell (i:=2) rfl rfl) Tryz.underlying22 rfl zr)<|oh (fun w1 H1=>op_indexAddrA1 (m:=5) Tryz.underlying322 Fa.I22 rfl rfl (by omega) zr)<|oh (fun w1 H1=>op_load rfl (H1.cell (i:=2) rfl rfl) Tryz.underlying22 rfl zr)<|oh (fun w1 H1=>op_andU32 rfl rfl zr)<|oh (fun w1 H1=>op_indexAddrA1 (m:=6) Tryz.underlying322 Fa.I22 rfl rfl (by omega) zr)<|oh (fun w1 H1=>op_load rfl (H1.cell (i:=2) rfl rfl) Tryz.underlying22 rfl zr)<|oh (fun w1 H1=>op_indexAddrA1 (m:=4) Tryz.underlying322 Fa.I22 rfl rfl (by omega) zr)<|oh (fun w1 H1=>op_load rfl (H1.cell (i:=2) rfl rfl) Tryz.underlying22 rfl zr)<|oh (fun w1 H1=>op_andNotU32 rfl rfl zr)<|oh (fun w1 H1=>op_xorU32 rfl rfl zr)<|oh (fun w1 H1=>op_addU32 rfl rfl zr)<|mh rfl<|oh (fun w1 H1=>op_indexAddrA1 Tryz.underlying344 Fa.I22 rfl rfl (by omega) zr)<|oh (fun w1 H1=>op_load rfl (H1.cell (i:=4) rfl (get_map0 vU32 0 (by rw [keyL_length]; omega))) Tryz.underlying22 rfl zr)<|oh (fun w1 H1=>op_addU32 rfl rfl zr)<|mh rfl<|oh (fun w1 H1=>op_indexAddrA1 Tryz.underlying344 Fa.I22 rfl rfl (by omega) zr)<|oh (fun w1 H1=>op_load rfl (H1.cell (i:=3) rfl (get_map0 vU32 0 (by rw [wl_length]; omega))) Tryz.underlying22 rfl zr)<|oh (fun w1 H1=>op_addU32 rfl rfl zr)<|ah rfl  HW.nil) (by kernel_rfl) ?_
  intro β14 w14 H14
  refine wn<|WC.seq<|WC.draw 30 Fa.M H14 (oh (fun w1 H1=>op_indexAddrA1 (m:=0) Tryz.underlying322 Fa.I22 rfl rfl (by omega) zr)<|oh (fun w1 H1=>op_load rfl (H1.cell (i:=2) rfl rfl) Tryz.underlying22 rfl zr)<|oh (fun w1 H1=>op_callF Fa.C245 rfl ((turn_ok ((rounds h (wl b 64) t).a) 2 (by decide) _).mono (fun e w2 hq=>⟨_,hq.1,rfl,hq.2⟩)))<|oh (fun w1 H1=>op_indexAddrA1 (m:=0) Tryz.underlying322 Fa.I22 rfl rfl (by omega) zr)<|oh (fun w1 H1=>op_load rfl (H1.cell (i:=2) rfl rfl) Tryz.underlying22 rfl zr)<|oh (fun w1 H1=>op_callF Fa.C245 rfl ((turn_ok ((rounds h (wl b 64) t).a) 13 (by decide) _).mono (fun e w2 hq=>⟨_,hq.1,rfl,hq.2⟩)))<|oh (fun w1 H1=>op_xorU32 rfl rfl zr)<|oh (fun w1 H1=>op_indexAddrA1 (m:=0) Tryz.underlying322 Fa.I22 rfl rfl (by omega) zr)<|oh (fun w1 H1=>op_load rfl (H1.cell (i:=2) rfl rfl) Tryz.underlying22 rfl zr)<|oh (fun w1 H1=>op_callF Fa.C245 rfl ((turn_ok ((rounds h (wl b 64) t).a) 22 (by decide) _).mono (fun e w2 hq=>⟨_,hq.1,rfl,hq.2⟩)))<|oh (fun w1 H1=>op_xorU32 rfl rfl zr)<|oh (fun w1 H1=>op_indexAddrA1 (m:=0) Tryz.underlying322 Fa.I22 rfl rfl (by omega) zr)<|oh (fun w1 H1=>op_load rfl (H1.cell (i:=2) rfl rfl) Tryz.underlying22 rfl zr)<|oh (fun w1 H1=>op_indexAddrA1 (m:=1) Tryz.underlying322 Fa.I22 rfl rfl (by omega) zr)<|oh (fun w1 H1=>op_load rfl (H1.cell (i:=2) rfl rfl) Tryz.underlying22 rfl zr)<|oh (fun w1 H1=>op_andU32 rfl rfl zr)<|oh (fun w1 H1=>op_indexAddrA1 (m:=0) Tryz.underlying322 Fa.I22 rfl rfl (by omega) zr)<|oh (fun w1 H1=>op_load rfl (H1.cell (i:=2) rfl rfl) Tryz.underlying22 rfl zr)<|oh (fun w1 H1=>op_indexAddrA1 (m:=2) Tryz.underlying322 Fa.I22 rfl rfl (by omega) zr)<|oh (fun w1 H1=>op_load rfl (H1.cell (i:=2) rfl rfl) Tryz.underlying22 rfl zr)<|oh (fun w1 H1=>op_andU32 rfl rfl zr)<|oh (fun w1 H1=>op_xorU32 rfl rfl zr)<|oh (fun w1 H1=>op_indexAddrA1 (m:=1) Tryz.underlying322 Fa.I22 rfl rfl (by omega) zr)<|oh (fun w1 H1=>op_load rfl (H1.cell (i:=2) rfl rfl) Tryz.underlying22 rfl zr)<|oh (fun w1 H1=>op_indexAddrA1 (m:=2) Tryz.underlying322 Fa.I22 rfl rfl (by omega) zr)<|oh (fun w1 H1=>op_load rfl (H1.cell (i:=2) rfl rfl) Tryz.underlying22 rfl zr)<|oh (fun w1 H1=>op_andU32 rfl rfl zr)<|oh (fun w1 H1=>op_xorU32 rfl rfl zr)<|oh (fun w1 H1=>op_addU32 rfl rfl zr)<|ah rfl  HW.nil) (by kernel_rfl) ?_
  intro β18 w18 H18
  exact wn<|WC.region<|wm rfl<|wm rfl<|wo (op_addU32 rfl rfl<|wo (op_indexAddrA1 (m:=0) Tryz.underlying322 Fa.I22 rfl rfl (by omega)<|wo (op_load rfl (H18.cell (i:=2) rfl rfl) Tryz.underlying22 rfl<|wo (op_indexAddrA1 (m:=1) Tryz.underlying322 Fa.I22 rfl rfl (by omega)<|wo (op_load rfl (H18.cell (i:=2) rfl rfl) Tryz.underlying22 rfl<|wo (op_indexAddrA1 (m:=2) Tryz.underlying322 Fa.I22 rfl rfl (by omega)<|wo (op_load rfl (H18.cell (i:=2) rfl rfl) Tryz.underlying22 rfl<|wo (op_indexAddrA1 (m:=3) Tryz.underlying322 Fa.I22 rfl rfl (by omega)<|wo (op_load rfl (H18.cell (i:=2) rfl rfl) Tryz.underlying22 rfl<|wm rfl<|wo (op_addU32 rfl rfl<|wo (op_indexAddrA1 (m:=4) Tryz.underlying322 Fa.I22 rfl rfl (by omega)<|wo (op_load rfl (H18.cell (i:=2) rfl rfl) Tryz.underlying22 rfl<|wo (op_indexAddrA1 (m:=5) Tryz.underlying322 Fa.I22 rfl rfl (by omega)<|wo (op_load rfl (H18.cell (i:=2) rfl rfl) Tryz.underlying22 rfl<|wo (op_indexAddrA1 (m:=6) Tryz.underlying322 Fa.I22 rfl rfl (by omega)<|wo (op_load rfl (H18.cell (i:=2) rfl rfl) Tryz.underlying22 rfl<|wo (op_buildA (cs:=[_,_,_,_,_,_,_,_]) Fa.I322 Tryz.underlying322 Fa.I22 rfl rfl<|wo (op_storeBW (i:=2) H18 rfl rfl rfl rfl rfl Fa.I322 (fun w19 H19=>(WL.nil<|WQ.inNormal<|WQ.next<|WC.region<|wo (op_addN (b:=1) rfl rfl (by omega)<|wm rfl<|WL.nil<|WQ.round (t+1) ⟨(by omega),(by exact H19)⟩ ⟨rfl,rfl,rfl,rfl,rfl,rfl,trivial⟩ (by omega))))))))))))))))))))))
 refine WC.exit<|WQ.thenExit<|WQ.thenExit<|WQ.inHere<|WQ.next<|WC.seq<|ws<|wm rfl<|wn<|WC.block<|WC.loop (α:=Nat) (fun k=>[(2,(ptr b1 0)),(4,(ptr b2 0)),(5,(ptr (β5 4).1 0)),(103,(vN k))]) (fun k w'=>(k≤8)∧Owl.Own [] w w' [.blk b1 (h.vals.map vU32) 322,.blk b2 [(vU32 0),(vU32 0),(vU32 0),(vU32 0),(vU32 0),(vU32 0),(vU32 0),(vU32 0)] 322,.blk (β5 4).1 ((addTo (rounds h (wl b 64) 64) h k).map vU32) 322,.blk (β5 5).1 ((wl b 64).map vU32) 344,.blk (β5 6).1 (keyL.map vU32) 344]) (fun k=>8-k) 0 ⟨(by omega),(by have ht:t=64:=(by omega); subst ht; exact H9)⟩ ⟨rfl,rfl,rfl,rfl,trivial⟩ ?_
 rintro k w20 ⟨hinv,H20⟩
 show WC _ _ _ _ _ [(2,(ptr b1 0)),(4,(ptr b2 0)),(5,(ptr (β5 4).1 0)),(103,(vN k))] _
 refine ws<|wo (op_lssN (b:=8) rfl rfl<|wn<|WC.seq (wE (k<8) (fun hb21 hc21=>?_) (fun hb21 hc21=>?_)))
 ·
  refine WC.skip<|WQ.next<|WC.seq<|WC.block<|ws<|wm rfl<|wa rfl<|wn<|WC.draw 8 Fa.M H20 (mh rfl<|oh (fun w1 H1=>op_indexAddrA1 Tryz.underlying322 Fa.I22 rfl rfl (by omega) zr)<|oh (fun w1 H1=>op_load rfl (H1.cell (i:=2) rfl (get_map0 vU32 0 (by rw [addTo_length _ _ _ (by omega)]; omega))) Tryz.underlying22 rfl zr)<|mh rfl<|oh (fun w1 H1=>op_indexAddrA1 Tryz.underlying322 Fa.I22 rfl rfl (by omega) zr)<|oh (fun w1 H1=>op_load rfl (H1.cell (i:=0) rfl (get_map0 vU32 0 (by rw [vals_length]; omega))) Tryz.underlying22 rfl zr)<|oh (fun w1 H1=>op_addU32 rfl rfl zr)<|oh (fun w1 H1=>op_indexAddrA1 Tryz.underlying322 Fa.I22 rfl rfl (by omega) zr)  HW.nil) (by kernel_rfl) ?_
  intro β22 w22 H22
  refine wo (op_storeB (i:=2) H22 rfl rfl rfl (by rw [Nat.blt_eq,List.length_map,addTo_length _ _ _ (by omega)]; omega) rfl Fa.I22 (fun w23 H23=>?_))
  exact WL.nil<|WQ.inNormal<|WQ.next<|WC.region<|wo (op_addN (b:=1) rfl rfl (by omega)<|wm rfl<|WL.nil<|WQ.round (k+1) ⟨(by omega),(by rw [addTo_map _ _ (by omega)]; exact H23)⟩ ⟨rfl,rfl,rfl,rfl,trivial⟩ (by omega))
 refine WC.exit<|WQ.thenExit<|WQ.thenExit<|WQ.inHere<|WQ.next<|ws<|wo (op_loadS rfl (H20.cellsW (i:=2) rfl) Tryz.underlying322 rfl Fa.I322 (by rw [List.length_map,addTo_length _ _ _ (by omega)]) ?_)
 refine wo (op_storeBV (i:=1) H20 rfl rfl rfl (by rw [List.length_map,addTo_length _ _ _ (by omega)]; rfl) (one_U32 _) (by rw [List.length_map,addTo_length _ _ _ (by omega)]) Fa.I322 (fun w24 H24=>?_))
 refine wn<|WC.ret<|WQ.out (.cell rfl (run_loadVarS (H24.cellsW (i:=1) rfl) Tryz.underlying322 rfl Fa.I322 (by rw [List.length_map,addTo_length _ _ _ (by omega)])) .nil) ?_
 exact ⟨by have hk:k=8:=(by omega); subst hk; rw [addTo_end]; rfl,H24.fr⟩
theorem new_ok  (w:World) :
  Calls Tryz.prog 191 #[] w (fun e w'=> ∃q,e=.returned (ptr q 0)∧Owl.Own [] w w' [.blk q [(vU32 (hst ([]:List UInt8)).a),(vU32 (hst ([]:List UInt8)).b),(vU32 (hst ([]:List UInt8)).c),(vU32 (hst ([]:List UInt8)).d),(vU32 (hst ([]:List UInt8)).e),(vU32 (hst ([]:List UInt8)).f),(vU32 (hst ([]:List UInt8)).g),(vU32 (hst ([]:List UInt8)).h),(.slice none 0 0),(vN ([]:List UInt8).length)] 325,.row (.slice none 0 0) 5 1 (hrest ([]:List UInt8)).length ((hrest ([]:List UInt8)).map vU8)]):=by
 refine enter Tryz.func191 rfl rfl ?_
 have H0:=Own.start w []
 exact ws<|wa rfl<|wn<|ws<|wo (cq H0 Fa.C226 rfl (first_ok _) fun w1 H1=>(wo (op_build (cs:=[_,_,_,_,_,_,_,_,_,_]) Fa.I325 Fa.PL325 rfl rfl<|wo (op_box H1 rfl rfl (fun b2 w2 H2=>(wa rfl<|wn<|WC.ret<|WQ.out (.tmp rfl .nil) (⟨b2,rfl,H2.nilRow _ _⟩)))))))
theorem write_ok (q:Nat) (v lv:Value) (all:List UInt8) (ls:List (List UInt8)) (T:List Nat) (w:World) (H:Owl.Own T w w [.blk q [(vU32 (hst all).a),(vU32 (hst all).b),(vU32 (hst all).c),(vU32 (hst all).d),(vU32 (hst all).e),(vU32 (hst all).f),(vU32 (hst all).g),(vU32 (hst all).h),v,(vN all.length)] 325,.row v 5 1 (hrest all).length ((hrest all).map vU8)]) {nl:Nat} (hA: ∀w1,Fr T w w1→Arr w1 lv 1 nl (ls.map str)) (hb:(all++ls.flatten).length<140737488351300) (hn:ls.length<2^40) :
  Calls Tryz.prog 193 #[(ptr q 0),lv] w (fun e w'=> ∃v,e=.returned (vN 0)∧Owl.Own T w w' [.blk q [(vU32 (hst (all++ls.flatten)).a),(vU32 (hst (all++ls.flatten)).b),(vU32 (hst (all++ls.flatten)).c),(vU32 (hst (all++ls.flatten)).d),(vU32 (hst (all++ls.flatten)).e),(vU32 (hst (all++ls.flatten)).f),(vU32 (hst (all++ls.flatten)).g),(vU32 (hst (all++ls.flatten)).h),v,(vN (all++ls.flatten).length)] 325,.row v 5 1 (hrest (all++ls.flatten)).length ((hrest (all++ls.flatten)).map vU8)]):=by
 refine enter Tryz.func193 rfl rfl ?_
 obtain rfl:=(hA w (Fr.refl _ _)).mapLen
 refine ws<|wa rfl<|wn<|WC.seq<|ws<|wm rfl<|wo (op_eqlPN Fa.PT290 rfl rfl<|wn<|WC.no rfl rfl<|WC.skip<|WQ.next<|WC.seq<|ws<|wm rfl<|wo (op_lenA Tryz.underlying59 rfl (hA _ H.fr)<|wm rfl<|wn<|WC.block<|WC.loop (α:=Nat × Value) (fun (k,v)=>[(0,(ptr q 0)),(9,lv),(10,(vN ls.length)),(11,(vN k))]) (fun (k,v) w'=>(k≤ls.length)∧Owl.Own T w w' [.blk q [(vU32 (hst (acc all ls k)).a),(vU32 (hst (acc all ls k)).b),(vU32 (hst (acc all ls k)).c),(vU32 (hst (acc all ls k)).d),(vU32 (hst (acc all ls k)).e),(vU32 (hst (acc all ls k)).f),(vU32 (hst (acc all ls k)).g),(vU32 (hst (acc all ls k)).h),v,(vN (acc all ls k).length)] 325,.row v 5 1 (hrest (acc all ls k)).length (List.map vU8 (hrest (acc all ls k)))]) (fun (k,v)=>ls.length-k) (0,v) ⟨(by omega),H⟩ ⟨rfl,rfl,rfl,rfl,trivial⟩ ?_))
 rintro ⟨k,v⟩ w1 ⟨hinv,H1⟩
 show WC _ _ _ _ _ [(0,(ptr q 0)),(9,lv),(10,(vN ls.length)),(11,(vN k))] _
 have hl0:=acc_len all ls k (by omega)
 have hr0:=hrest_length (acc all ls k)
 refine ws<|wo (op_lssN rfl rfl<|wn<|WC.seq (wE (k<ls.length) (fun hb2 hc2=>?_) (fun hb2 hc2=>?_)))
 ·
  have hl1:=acc_len1 all ls k hc2
  refine WC.skip<|WQ.next<|WC.seq<|WC.block<|ws<|wo (op_indexAddr1 Tryz.underlying59 Fa.I9 rfl (hA _ H1.fr) rfl (by omega)<|wo (op_load rfl ((hA _ H1.fr).at (get_map str [] (by first | omega | (simp; omega)))) Tryz.underlying9 rfl ?_))
  refine wa rfl<|wn<|ws<|wm rfl<|wm rfl<|wo (op_nilCheck rfl<|wo (op_fieldAddr rfl Fa.F325_1<|wo (op_load rfl (H1.cell (i:=0) rfl rfl) Tryz.underlying114 rfl<|wm rfl<|wo (op_appendM (f:=vU8) (l:=(hrest (acc all ls k))) (l':=(ls.getD k [])) (i:=1) H1 Tryz.underlying114 Fa.I5 rfl rfl rfl rfl (Src.ofStr Tryz.underlying9) (one_mapM (fun _=>rfl)) (by omega) (by omega) (fun v3 w3 H3=>(wo (op_nilCheck rfl<|wo (op_fieldAddr rfl Fa.F325_1<|wo (op_storeB (i:=0) H3 rfl rfl rfl rfl (Arr.one (H3.arrR (i:=1) rfl)) Fa.I114 (fun w4 H4=>(wn<|ws<|wm rfl<|wo (op_nilCheck rfl<|wo (op_fieldAddr rfl Fa.F325_2<|wo (op_load rfl (H4.cell (i:=0) rfl rfl) Tryz.underlying3 rfl<|wm rfl<|wo (op_lenStr Tryz.underlying9 rfl<|wo (op_addN rfl rfl (by omega)<|wo (op_nilCheck rfl<|wo (op_fieldAddr rfl Fa.F325_2<|wo (op_storeB (i:=0) H4 rfl rfl rfl rfl rfl Fa.I3 (fun w5 H5=>(wn<|WC.block<|WC.loop (α:=Nat × Value) (fun (j,v)=>[(0,(ptr q 0)),(6,(str (ls.getD k []))),(9,lv),(10,(vN ls.length)),(11,(vN k))]) (fun (j,v) w'=>(64 * j≤(hrest (acc all ls k)).length+(ls.getD k []).length)∧Owl.Own T w w' [.blk q [(vU32 (bst (hst (acc all ls k)) (hrest (acc all ls k)++(ls.getD k [])) j).a),(vU32 (bst (hst (acc all ls k)) (hrest (acc all ls k)++(ls.getD k [])) j).b),(vU32 (bst (hst (acc all ls k)) (hrest (acc all ls k)++(ls.getD k [])) j).c),(vU32 (bst (hst (acc all ls k)) (hrest (acc all ls k)++(ls.getD k [])) j).d),(vU32 (bst (hst (acc all ls k)) (hrest (acc all ls k)++(ls.getD k [])) j).e),(vU32 (bst (hst (acc all ls k)) (hrest (acc all ls k)++(ls.getD k [])) j).f),(vU32 (bst (hst (acc all ls k)) (hrest (acc all ls k)++(ls.getD k [])) j).g),(vU32 (bst (hst (acc all ls k)) (hrest (acc all ls k)++(ls.getD k [])) j).h),v,(vN ((acc all ls k).length+(ls.getD k []).length))] 325,.row v 5 1 (brest (hrest (acc all ls k)++(ls.getD k [])) j).length (List.map vU8 (brest (hrest (acc all ls k)++(ls.getD k [])) j))]) (fun (j,v)=>(hrest (acc all ls k)).length+(ls.getD k []).length-64 * j) (0,v3) ⟨(by omega),(by have h:=H5; rw [← @List.length_append _ (hrest (acc all ls k)) (ls.getD k [])] at h; exact h)⟩ ⟨rfl,rfl,rfl,rfl,rfl,trivial⟩ ?_)))))))))))))))))))))
  rintro ⟨j,v⟩ w6 ⟨hinv,H6⟩
  show WC _ _ _ _ _ [(0,(ptr q 0)),(6,(str (ls.getD k []))),(9,lv),(10,(vN ls.length)),(11,(vN k))] _
  have hb0:=brest_length (hrest (acc all ls k)++(ls.getD k [])) j
  rw [List.length_append] at hb0
  refine WC.seq<|ws<|wm rfl<|wo (op_nilCheck rfl<|wo (op_fieldAddr rfl Fa.F325_1<|wo (op_load rfl (H6.cell (i:=0) rfl rfl) Tryz.underlying114 rfl<|wo (op_lenA Tryz.underlying114 rfl (H6.arrR (i:=1) rfl)<|wo (op_geqN (b:=64) rfl rfl<|wn (wE ((brest (hrest (acc all ls k)++(ls.getD k [])) j).length≥64) (fun hb7 hc7=>?_) (fun hb7 hc7=>?_)))))))
  ·
   refine WC.skip<|WQ.next<|WC.block<|WC.seq<|WC.draw 13 Fa.M H6 (mh rfl<|mh rfl<|oh (fun w1 H1=>op_nilCheck rfl zr)<|oh (fun w1 H1=>op_fieldAddr rfl Fa.F325_0 zr)<|oh (fun w1 H1=>op_loadS (vs:=[_,_,_,_,_,_,_,_]) rfl (H1.cells (i:=0) rfl rfl) Tryz.underlying322 rfl Fa.I322 rfl zr)<|mh rfl<|oh (fun w1 H1=>op_nilCheck rfl zr)<|oh (fun w1 H1=>op_fieldAddr rfl Fa.F325_1 zr)<|oh (fun w1 H1=>op_load rfl (H1.cell (i:=0) rfl rfl) Tryz.underlying114 rfl zr)<|oh (fun w1 H1=>op_cutHi (b:=64) Tryz.underlying114 Fa.I5 rfl (H1.arrR (i:=1) rfl) rfl (by omega) zr)<|oh (fun w1 H1=>op_callF Fa.C228 rfl ((block_ok (bst (hst (acc all ls k)) (hrest (acc all ls k)++(ls.getD k [])) j) _ ((brest (hrest (acc all ls k)++(ls.getD k [])) j).take 64) _ (by rw [List.length_take]; omega) (((H1.arrR (i:=1) rfl)).cutHiM (f:=vU8) (l:=(brest (hrest (acc all ls k)++(ls.getD k [])) j)) (b:=64) (by omega))).mono (fun e w2 hq=>⟨_,hq.1,rfl,hq.2⟩)))<|oh (fun w1 H1=>op_nilCheck rfl zr)<|oh (fun w1 H1=>op_fieldAddr rfl Fa.F325_0 zr)  HW.nil) (by kernel_rfl) ?_
   intro β9 w9 H9
   refine wo (op_storeBS (i:=0) (vs:=[_,_,_,_,_,_,_,_]) H9 rfl rfl rfl rfl rfl Fa.I322 (fun w10 H10=>(wn<|WC.region<|wm rfl<|wm rfl<|wo (op_nilCheck rfl<|wo (op_fieldAddr rfl Fa.F325_1<|wo (op_load rfl (H10.cell (i:=0) rfl rfl) Tryz.underlying114 rfl<|wo (op_cutLo (a:=64) Tryz.underlying114 Fa.I5 rfl (H10.arrR (i:=1) rfl) rfl (by omega) ?_)))))))
   have H11:=H10.cutLoM (f:=vU8) (l:=(brest (hrest (acc all ls k)++(ls.getD k [])) j)) (a:=64) (i:=1) rfl (by omega)
   exact wo (op_nilCheck rfl<|wo (op_fieldAddr rfl Fa.F325_1<|wo (op_storeB (i:=0) H11 rfl rfl rfl rfl (Arr.one (H11.arrR (i:=1) rfl)) Fa.I114 (fun w12 H12=>(WL.nil<|WQ.inNormal<|WQ.round (j+1,(cutV v 64 (brest (hrest (acc all ls k)++(ls.getD k [])) j).length 1)) ⟨(by omega),(by have h:=H12; rw [←List.length_drop] at h; exact h)⟩ ⟨rfl,rfl,rfl,rfl,rfl,trivial⟩ (by show (hrest (acc all ls k)).length+(ls.getD k []).length-64 * (j+1)<(hrest (acc all ls k)).length+(ls.getD k []).length-64 * j; omega))))))
  obtain ⟨he1,he2⟩:=mEnd (acc all ls k) (ls.getD k []) j (by omega) (by omega)
  have H13:Owl.Own T w w6 [.blk q [(vU32 (hst (acc all ls (k+1))).a),(vU32 (hst (acc all ls (k+1))).b),(vU32 (hst (acc all ls (k+1))).c),(vU32 (hst (acc all ls (k+1))).d),(vU32 (hst (acc all ls (k+1))).e),(vU32 (hst (acc all ls (k+1))).f),(vU32 (hst (acc all ls (k+1))).g),(vU32 (hst (acc all ls (k+1))).h),v,(vN (acc all ls (k+1)).length)] 325,.row v 5 1 (hrest (acc all ls (k+1))).length (List.map vU8 (hrest (acc all ls (k+1))))]:=by have h:=H6; rw [he1,he2,← @List.length_append _ (acc all ls k) (ls.getD k [])] at h; exact h
  exact WC.exit<|WQ.thenExit<|WQ.thenExit<|WQ.inHere<|WQ.inNormal<|WQ.next<|WC.region<|wo (op_addN (b:=1) rfl rfl (by omega)<|wm rfl<|WL.nil<|WQ.round (k+1,v) ⟨(by omega),H13⟩ ⟨rfl,rfl,rfl,rfl,trivial⟩ (by show ls.length-(k+1)<ls.length-k; omega))
 exact WC.exit<|WQ.thenExit<|WQ.thenExit<|WQ.inHere<|WQ.next<|ws<|wa rfl<|wn<|WC.ret<|WQ.out (.tmp rfl .nil) (⟨_,rfl,(by have hk:k=ls.length:=(by omega); subst hk; have h:=H1; rw [acc_end] at h; exact h)⟩)
theorem hsum_ok (q:Nat) (v:Value) (all:List UInt8) (w:World) (hQ:cellsAt w q [(vU32 (hst all).a),(vU32 (hst all).b),(vU32 (hst all).c),(vU32 (hst all).d),(vU32 (hst all).e),(vU32 (hst all).f),(vU32 (hst all).g),(vU32 (hst all).h),v,(vN all.length)]) (hV:Arr w v 1 (hrest all).length (List.map vU8 (hrest all))) (_hb:all.length<140737488351300) :
  Calls Tryz.prog 195 #[(ptr q 0)] w (fun e w'=>e=.returned (str (sha all))∧Fr [] w w'):=by
 refine enter Tryz.func195 rfl rfl ?_
 have H0:=(((Own.start w []).oldB hQ).oldA hV)
 have hr0:=hrest_length all
 have hp0:padZ all.length=(119-all.length%64)%64:=rfl
 refine ws<|wa rfl<|wn<|WC.seq<|ws<|wm rfl<|wo (op_eqlPN Fa.PT290 rfl rfl<|wn<|WC.no rfl rfl<|WC.skip<|WQ.next<|ws<|wm rfl<|wo (op_nilCheck rfl<|wo (op_fieldAddr rfl Fa.F325_1<|wo (op_load rfl (H0.cellO (i:=0) rfl rfl) Tryz.underlying114 rfl ?_))))
 have H2:=H0.nilRow 5 1
 refine wo (op_appendM (f:=vU8) (l:=[]) (l':=(hrest all)) (i:=2) H2 Tryz.underlying114 Fa.I5 rfl rfl rfl rfl (Src.ofArr Tryz.underlying114 (H2.arrO (i:=1) rfl)) (one_mapM (fun _=>rfl)) (by omega) (by omega) (fun v1 w1 H1=>(wo (op_buildSlice (cs:=[_]) H1 Tryz.underlying114 Fa.I5 rfl rfl rfl rfl (by decide) (by decide) (fun b3 w3 H3=>(wo (op_appendM (f:=vU8) (l:=([]++(hrest all))) (l':=[128]) (i:=2) H3 Tryz.underlying114 Fa.I5 rfl rfl rfl rfl (Src.ofArr Tryz.underlying114 (H3.arrR (i:=3) rfl)) (one_mapM (fun _=>rfl)) (by omega) (by omega) (fun v4 w4 H4=>(wa rfl<|wn<|WC.seq<|WC.block<|WC.loop (α:=Nat × Value) (fun (k,t)=>[(0,(ptr q 0)),(3,t)]) (fun (k,t) w'=>(k≤padZ all.length)∧Owl.Own [] w w' [Ent.bo q [(vU32 (hst all).a),(vU32 (hst all).b),(vU32 (hst all).c),(vU32 (hst all).d),(vU32 (hst all).e),(vU32 (hst all).f),(vU32 (hst all).g),(vU32 (hst all).h),v,(vN all.length)],Ent.ar v 1 (hrest all).length (List.map vU8 (hrest all)),.row t 5 1 ((0+(hrest all).length)+1+k) (List.map vU8 (hrest all++[128]++List.replicate k 0)),.row (.slice (some ⟨b3,0,none⟩) 1 1) 5 1 1 (List.map vU8 [128])]) (fun (k,t)=>padZ all.length-k) (0,v4) ⟨(by omega),(by have h:=(show Owl.Own [] w w4 [Ent.bo q [(vU32 (hst all).a),(vU32 (hst all).b),(vU32 (hst all).c),(vU32 (hst all).d),(vU32 (hst all).e),(vU32 (hst all).f),(vU32 (hst all).g),(vU32 (hst all).h),v,(vN all.length)],Ent.ar v 1 (hrest all).length (List.map vU8 (hrest all)),.row v4 5 1 ((0+(hrest all).length)+1) (List.map vU8 (([]++(hrest all))++[128])),.row (.slice (some ⟨b3,0,none⟩) 1 1) 5 1 1 (List.map vU8 [128])] from H4); simpa using h)⟩ ⟨rfl,rfl,trivial⟩ ?_)))))))))
 rintro ⟨k,t⟩ w5 ⟨hinv,H5⟩
 show WC _ _ _ _ _ [(0,(ptr q 0)),(3,t)] _
 refine WC.seq<|ws<|wm rfl<|wo (op_lenA Tryz.underlying114 rfl (H5.arrR (i:=2) rfl)<|wo (op_remN (b:=64) rfl rfl (by omega)<|wo (op_neqN (b:=56) rfl rfl<|wn (wE ((((0+(hrest all).length)+1+k)%64)≠56) (fun hb6 hc6=>?_) (fun hb6 hc6=>?_)))))
 ·
  exact WC.skip<|WQ.next<|WC.block<|WC.region<|wm rfl<|wo (op_buildSlice (cs:=[_]) H5 Tryz.underlying114 Fa.I5 rfl rfl rfl rfl (by decide) (by decide) (fun b7 w7 H7=>(wo (op_appendM (f:=vU8) (l:=(hrest all++[128]++List.replicate k 0)) (l':=[0]) (i:=2) H7 Tryz.underlying114 Fa.I5 rfl rfl rfl rfl (Src.ofArr Tryz.underlying114 (H7.arrR (i:=4) rfl)) (one_mapM (fun _=>rfl)) (by omega) (by omega) (fun v8 w8 H8=>(wa rfl<|WL.nil<|WQ.inNormal<|WQ.round (k+1,v8) ⟨(by omega),(by have h:=(show Owl.Own [] w w8 [Ent.bo q [(vU32 (hst all).a),(vU32 (hst all).b),(vU32 (hst all).c),(vU32 (hst all).d),(vU32 (hst all).e),(vU32 (hst all).f),(vU32 (hst all).g),(vU32 (hst all).h),v,(vN all.length)],Ent.ar v 1 (hrest all).length (List.map vU8 (hrest all)),.row v8 5 1 (((0+(hrest all).length)+1+k)+1) (List.map vU8 ((hrest all++[128]++List.replicate k 0)++[0])),.row (.slice (some ⟨b3,0,none⟩) 1 1) 5 1 1 (List.map vU8 [128])] from (H8.take 4)); rw [padStep] at h; exact h)⟩ ⟨rfl,rfl,trivial⟩ (by show padZ all.length-(k+1)<padZ all.length-k; omega)))))))
 have hk:k=padZ all.length:=(by omega)
 refine WC.exit<|WQ.thenExit<|WQ.thenExit<|WQ.inHere<|WQ.next<|ws<|wm rfl<|wo (op_nilCheck rfl<|wo (op_fieldAddr rfl Fa.F325_2<|wo (op_load rfl (H5.cellO (i:=0) rfl rfl) Tryz.underlying3 rfl<|wo (op_convNU64 (hs:=Tryz.underlying3) (hd:=Tryz.underlying154) rfl<|wo (op_mulU64 (a:=8) rfl rfl<|wa rfl<|wn<|WC.seq<|ws<|wa rfl<|wn<|WC.block<|WC.loop (α:=Nat × Value) (fun (j,t)=>[(0,(ptr q 0)),(3,t),(4,(vU64 ((8:UInt64) * (UInt64.ofNat all.length)))),(5,(vI ((56:Int)-((8 * j:Nat):Int))))]) (fun (j,t) w'=>(j≤8)∧Owl.Own [] w w' [Ent.bo q [(vU32 (hst all).a),(vU32 (hst all).b),(vU32 (hst all).c),(vU32 (hst all).d),(vU32 (hst all).e),(vU32 (hst all).f),(vU32 (hst all).g),(vU32 (hst all).h),v,(vN all.length)],Ent.ar v 1 (hrest all).length (List.map vU8 (hrest all)),.row t 5 1 ((hrest all).length+1+padZ all.length+j) (List.map vU8 (hrest all++([128]++List.replicate (padZ all.length) 0++lenTo all.length j))),.row (.slice (some ⟨b3,0,none⟩) 1 1) 5 1 1 (List.map vU8 [128])]) (fun (j,t)=>8-j) (0,t) ⟨(by omega),(by have h:=(show Owl.Own [] w w5 [Ent.bo q [(vU32 (hst all).a),(vU32 (hst all).b),(vU32 (hst all).c),(vU32 (hst all).d),(vU32 (hst all).e),(vU32 (hst all).f),(vU32 (hst all).g),(vU32 (hst all).h),v,(vN all.length)],Ent.ar v 1 (hrest all).length (List.map vU8 (hrest all)),.row t 5 1 ((0+(hrest all).length)+1+k) (List.map vU8 (hrest all++[128]++List.replicate k 0)),.row (.slice (some ⟨b3,0,none⟩) 1 1) 5 1 1 (List.map vU8 [128])] from H5); rw [hk] at h; simpa [lenTo,Nat.add_assoc] using h)⟩ ⟨rfl,rfl,rfl,rfl,trivial⟩ ?_)))))
 rintro ⟨j,t⟩ w9 ⟨hinv,H9⟩
 show WC _ _ _ _ _ [(0,(ptr q 0)),(3,t),(4,(vU64 ((8:UInt64) * (UInt64.ofNat all.length)))),(5,(vI ((56:Int)-((8 * j:Nat):Int))))] _
 refine WC.seq<|ws<|wm rfl<|wo (op_geqI (b:=(0:Int)) rfl rfl<|wn (wE (((56:Int)-((8 * j:Nat):Int))≥(0:Int)) (fun hb10 hc10=>?_) (fun hb10 hc10=>?_)))
 ·
  rw [show ((56:Int)-((8 * j:Nat):Int))=((56-8 * j:Nat):Int) from by omega]
  exact WC.skip<|WQ.next<|WC.seq<|WC.block<|WC.region<|wm rfl<|wm rfl<|wm rfl<|wo (op_shrU64 rfl rfl<|wo (op_convU64U8 (hs:=Tryz.underlying154) (hd:=Tryz.underlying5) rfl<|wo (op_buildSlice (cs:=[_]) H9 Tryz.underlying114 Fa.I5 rfl rfl rfl rfl (by decide) (by decide) (fun b11 w11 H11=>(wo (op_appendM (f:=vU8) (l:=(hrest all++([128]++List.replicate (padZ all.length) 0++lenTo all.length j))) (l':=[(UInt8.ofNat (shrU64 ((8:UInt64) * (UInt64.ofNat all.length)) (56-8 * j)).toNat)]) (i:=2) H11 Tryz.underlying114 Fa.I5 rfl rfl rfl rfl (Src.ofArr Tryz.underlying114 (H11.arrR (i:=4) rfl)) (one_mapM (fun _=>rfl)) (by omega) (by omega) (fun v12 w12 H12=>(wa rfl<|WL.nil<|WQ.inNormal<|WQ.next<|WC.region<|wm rfl<|wo (op_subI (a:=(((56-8 * j):Nat):Int)) (b:=((8:Nat):Int)) rfl rfl (by omega)<|wa rfl<|WL.nil<|WQ.round (j+1,v12) ⟨(by omega),(by have h:=(show Owl.Own [] w w12 [Ent.bo q [(vU32 (hst all).a),(vU32 (hst all).b),(vU32 (hst all).c),(vU32 (hst all).d),(vU32 (hst all).e),(vU32 (hst all).f),(vU32 (hst all).g),(vU32 (hst all).h),v,(vN all.length)],Ent.ar v 1 (hrest all).length (List.map vU8 (hrest all)),.row v12 5 1 (((hrest all).length+1+padZ all.length+j)+1) (List.map vU8 ((hrest all++([128]++List.replicate (padZ all.length) 0++lenTo all.length j))++[(UInt8.ofNat (shrU64 ((8:UInt64) * (UInt64.ofNat all.length)) (56-8 * j)).toNat)])),.row (.slice (some ⟨b3,0,none⟩) 1 1) 5 1 1 (List.map vU8 [128])] from (H12.take 4)); rw [lenStep] at h; exact h)⟩ ⟨rfl,rfl,rfl,(by show some (vI (((56-8 * j:Nat):Int)-8))=some (vI ((56:Int)-((8 * (j+1):Nat):Int))); congr 2; omega),trivial⟩ (by show 8-(j+1)<8-j; omega))))))))))
 refine WC.exit<|WQ.thenExit<|WQ.thenExit<|WQ.inHere<|WQ.next<|ws<|wm rfl<|wo (op_nilCheck rfl<|wo (op_fieldAddr rfl Fa.F325_0<|wo (op_loadS (vs:=[_,_,_,_,_,_,_,_]) rfl (H9.cellsO (i:=0) rfl rfl) Tryz.underlying322 rfl Fa.I322 rfl<|wo (op_alloc H9 Fa.I322 (fun b13 w13 H13=>(wo (op_storeBW (i:=4) H13 rfl rfl rfl rfl rfl Fa.I322 (fun w14 H14=>(wn<|WC.seq<|WC.block<|WC.loop (α:=Nat × Value) (fun (j,t)=>[(3,t),(6,(ptr b13 0))]) (fun (j,t) w'=>(64 * j≤(hrest all++pads all.length).length)∧Owl.Own [] w w' [Ent.bo q [(vU32 (hst all).a),(vU32 (hst all).b),(vU32 (hst all).c),(vU32 (hst all).d),(vU32 (hst all).e),(vU32 (hst all).f),(vU32 (hst all).g),(vU32 (hst all).h),v,(vN all.length)],Ent.ar v 1 (hrest all).length (List.map vU8 (hrest all)),.row t 5 1 (brest (hrest all++pads all.length) j).length (List.map vU8 (brest (hrest all++pads all.length) j)),.row (.slice (some ⟨b3,0,none⟩) 1 1) 5 1 1 (List.map vU8 [128]),.blk b13 [(vU32 (bst (hst all) (hrest all++pads all.length) j).a),(vU32 (bst (hst all) (hrest all++pads all.length) j).b),(vU32 (bst (hst all) (hrest all++pads all.length) j).c),(vU32 (bst (hst all) (hrest all++pads all.length) j).d),(vU32 (bst (hst all) (hrest all++pads all.length) j).e),(vU32 (bst (hst all) (hrest all++pads all.length) j).f),(vU32 (bst (hst all) (hrest all++pads all.length) j).g),(vU32 (bst (hst all) (hrest all++pads all.length) j).h)] 322]) (fun (j,t)=>(hrest all++pads all.length).length-64 * j) (0,t) ⟨(by omega),(by have hj:j=8:=(by omega); have h:=(show Owl.Own [] w w14 [Ent.bo q [(vU32 (hst all).a),(vU32 (hst all).b),(vU32 (hst all).c),(vU32 (hst all).d),(vU32 (hst all).e),(vU32 (hst all).f),(vU32 (hst all).g),(vU32 (hst all).h),v,(vN all.length)],Ent.ar v 1 (hrest all).length (List.map vU8 (hrest all)),.row t 5 1 ((hrest all).length+1+padZ all.length+j) (List.map vU8 (hrest all++([128]++List.replicate (padZ all.length) 0++lenTo all.length j))),.row (.slice (some ⟨b3,0,none⟩) 1 1) 5 1 1 (List.map vU8 [128]),.blk b13 [(vU32 (hst all).a),(vU32 (hst all).b),(vU32 (hst all).c),(vU32 (hst all).d),(vU32 (hst all).e),(vU32 (hst all).f),(vU32 (hst all).g),(vU32 (hst all).h)] 322] from H14); rw [hj] at h; have e:(hrest all).length+1+padZ all.length+8=(brest (hrest all++pads all.length) 0).length:=(by simp [brest,pads,lenTo_length]; omega); rw [e] at h; exact h)⟩ ⟨rfl,rfl,trivial⟩ ?_)))))))))
 rintro ⟨j,t⟩ w15 ⟨hinv,H15⟩
 show WC _ _ _ _ _ [(3,t),(6,(ptr b13 0))] _
 have hb0:=brest_length (hrest all++pads all.length) j
 have hP:=padAll all
 refine WC.seq<|ws<|wm rfl<|wo (op_lenA Tryz.underlying114 rfl (H15.arrR (i:=2) rfl)<|wo (op_gtrN (b:=0) rfl rfl<|wn (wE ((brest (hrest all++pads all.length) j).length>0) (fun hb16 hc16=>?_) (fun hb16 hc16=>?_))))
 ·
  refine WC.skip<|WQ.next<|WC.seq<|WC.block<|WC.draw 4 Fa.M H15 (oh (fun w1 H1=>op_loadS (vs:=[_,_,_,_,_,_,_,_]) rfl (H1.cells (i:=4) rfl rfl) Tryz.underlying322 rfl Fa.I322 rfl zr)<|mh rfl<|oh (fun w1 H1=>op_cutHi (b:=64) Tryz.underlying114 Fa.I5 rfl (H1.arrR (i:=2) rfl) rfl (by omega) zr)<|oh (fun w1 H1=>op_callF Fa.C228 rfl ((block_ok (bst (hst all) (hrest all++pads all.length) j) _ ((brest (hrest all++pads all.length) j).take 64) _ (by rw [List.length_take]; omega) (((H1.arrR (i:=2) rfl)).cutHiM (f:=vU8) (l:=(brest (hrest all++pads all.length) j)) (b:=64) (by omega))).mono (fun e w2 hq=>⟨_,hq.1,rfl,hq.2⟩)))  HW.nil) (by kernel_rfl) ?_
  intro β18 w18 H18
  refine wo (op_storeBW (i:=4) H18 rfl rfl rfl rfl rfl Fa.I322 (fun w19 H19=>(WL.nil<|WQ.inNormal<|WQ.next<|WC.region<|wm rfl<|wo (op_cutLo (a:=64) Tryz.underlying114 Fa.I5 rfl (H19.arrR (i:=2) rfl) rfl (by omega) ?_))))
  have H20:=H19.cutLoM (f:=vU8) (l:=(brest (hrest all++pads all.length) j)) (a:=64) (i:=2) rfl (by omega)
  exact wa rfl<|WL.nil<|WQ.round (j+1,(cutV t 64 (brest (hrest all++pads all.length) j).length 1)) ⟨(by omega),(by have h:=(show Owl.Own [] w w19 [Ent.bo q [(vU32 (hst all).a),(vU32 (hst all).b),(vU32 (hst all).c),(vU32 (hst all).d),(vU32 (hst all).e),(vU32 (hst all).f),(vU32 (hst all).g),(vU32 (hst all).h),v,(vN all.length)],Ent.ar v 1 (hrest all).length (List.map vU8 (hrest all)),.row (cutV t 64 (brest (hrest all++pads all.length) j).length 1) 5 1 ((brest (hrest all++pads all.length) j).length-64) (List.map vU8 ((brest (hrest all++pads all.length) j).drop 64)),.row (.slice (some ⟨b3,0,none⟩) 1 1) 5 1 1 (List.map vU8 [128]),.blk b13 [(vU32 (blockS (bst (hst all) (hrest all++pads all.length) j) ((brest (hrest all++pads all.length) j).take 64)).a),(vU32 (blockS (bst (hst all) (hrest all++pads all.length) j) ((brest (hrest all++pads all.length) j).take 64)).b),(vU32 (blockS (bst (hst all) (hrest all++pads all.length) j) ((brest (hrest all++pads all.length) j).take 64)).c),(vU32 (blockS (bst (hst all) (hrest all++pads all.length) j) ((brest (hrest all++pads all.length) j).take 64)).d),(vU32 (blockS (bst (hst all) (hrest all++pads all.length) j) ((brest (hrest all++pads all.length) j).take 64)).e),(vU32 (blockS (bst (hst all) (hrest all++pads all.length) j) ((brest (hrest all++pads all.length) j).take 64)).f),(vU32 (blockS (bst (hst all) (hrest all++pads all.length) j) ((brest (hrest all++pads all.length) j).take 64)).g),(vU32 (blockS (bst (hst all) (hrest all++pads all.length) j) ((brest (hrest all++pads all.length) j).take 64)).h)] 322] from H20); rw [←List.length_drop] at h; exact h)⟩ ⟨rfl,rfl,trivial⟩ (by show (hrest all++pads all.length).length-64 * (j+1)<(hrest all++pads all.length).length-64 * j; omega)
 refine WC.exit<|WQ.thenExit<|WQ.thenExit<|WQ.inHere<|WQ.next<|ws<|wa rfl ?_
 have H21:=H15.nilRow 5 1
 refine wn<|WC.seq<|ws<|wo (op_loadS (vs:=[_,_,_,_,_,_,_,_]) rfl (H21.cells (i:=4) rfl rfl) Tryz.underlying322 rfl Fa.I322 rfl<|wm rfl<|wn<|WC.block<|WC.loop (α:=Nat × Value) (fun (k,t2)=>[(7,t2),(56,(.agg #[(vU32 (bst (hst all) (hrest all++pads all.length) j).a),(vU32 (bst (hst all) (hrest all++pads all.length) j).b),(vU32 (bst (hst all) (hrest all++pads all.length) j).c),(vU32 (bst (hst all) (hrest all++pads all.length) j).d),(vU32 (bst (hst all) (hrest all++pads all.length) j).e),(vU32 (bst (hst all) (hrest all++pads all.length) j).f),(vU32 (bst (hst all) (hrest all++pads all.length) j).g),(vU32 (bst (hst all) (hrest all++pads all.length) j).h)])),(57,(vN k))]) (fun (k,t2) w'=>(k≤8)∧Owl.Own [] w w' [Ent.bo q [(vU32 (hst all).a),(vU32 (hst all).b),(vU32 (hst all).c),(vU32 (hst all).d),(vU32 (hst all).e),(vU32 (hst all).f),(vU32 (hst all).g),(vU32 (hst all).h),v,(vN all.length)],Ent.ar v 1 (hrest all).length (List.map vU8 (hrest all)),.row t 5 1 (brest (hrest all++pads all.length) j).length (List.map vU8 (brest (hrest all++pads all.length) j)),.row (.slice (some ⟨b3,0,none⟩) 1 1) 5 1 1 (List.map vU8 [128]),.blk b13 [(vU32 (bst (hst all) (hrest all++pads all.length) j).a),(vU32 (bst (hst all) (hrest all++pads all.length) j).b),(vU32 (bst (hst all) (hrest all++pads all.length) j).c),(vU32 (bst (hst all) (hrest all++pads all.length) j).d),(vU32 (bst (hst all) (hrest all++pads all.length) j).e),(vU32 (bst (hst all) (hrest all++pads all.length) j).f),(vU32 (bst (hst all) (hrest all++pads all.length) j).g),(vU32 (bst (hst all) (hrest all++pads all.length) j).h)] 322,.row t2 5 1 (4 * k) (List.map vU8 (outTo (bst (hst all) (hrest all++pads all.length) j) k))]) (fun (k,t2)=>8-k) (0,(.slice none 0 0)) ⟨(by omega),H21⟩ ⟨rfl,rfl,rfl,trivial⟩ ?_)
 rintro ⟨k,t2⟩ w22 ⟨hinv,H22⟩
 show WC _ _ _ _ _ [(7,t2),(56,(.agg #[(vU32 (bst (hst all) (hrest all++pads all.length) j).a),(vU32 (bst (hst all) (hrest all++pads all.length) j).b),(vU32 (bst (hst all) (hrest all++pads all.length) j).c),(vU32 (bst (hst all) (hrest all++pads all.length) j).d),(vU32 (bst (hst all) (hrest all++pads all.length) j).e),(vU32 (bst (hst all) (hrest all++pads all.length) j).f),(vU32 (bst (hst all) (hrest all++pads all.length) j).g),(vU32 (bst (hst all) (hrest all++pads all.length) j).h)])),(57,(vN k))] _
 refine ws<|wo (op_lssN (b:=8) rfl rfl<|wn<|WC.seq (wE (k<8) (fun hb23 hc23=>?_) (fun hb23 hc23=>?_)))
 ·
  exact WC.skip<|WQ.next<|WC.seq<|WC.block<|ws<|wo (op_indexA1 (cs:=_) Tryz.underlying322 Fa.I22 Tryz.underlying22 rfl rfl rfl (by omega) (get_map (l:=(bst (hst all) (hrest all++pads all.length) j).vals) vU32 0 (by rw [vals_length]; omega))<|wa rfl<|wn<|WC.region<|wm rfl<|wm rfl<|wo (op_shrU32 (s:=24) rfl rfl<|wo (op_convU32U8 (hs:=Tryz.underlying22) (hd:=Tryz.underlying5) rfl<|wm rfl<|wo (op_shrU32 (s:=16) rfl rfl<|wo (op_convU32U8 (hs:=Tryz.underlying22) (hd:=Tryz.underlying5) rfl<|wm rfl<|wo (op_shrU32 (s:=8) rfl rfl<|wo (op_convU32U8 (hs:=Tryz.underlying22) (hd:=Tryz.underlying5) rfl<|wm rfl<|wo (op_convU32U8 (hs:=Tryz.underlying22) (hd:=Tryz.underlying5) rfl<|wo (op_buildSlice (cs:=[_,_,_,_]) H22 Tryz.underlying114 Fa.I5 rfl rfl rfl rfl (by decide) (by decide) (fun b24 w24 H24=>(wo (op_appendM (f:=vU8) (l:=(outTo (bst (hst all) (hrest all++pads all.length) j) k)) (l':=[(UInt8.ofNat (shrU32 ((bst (hst all) (hrest all++pads all.length) j).vals.getD k 0) 24).toNat),(UInt8.ofNat (shrU32 ((bst (hst all) (hrest all++pads all.length) j).vals.getD k 0) 16).toNat),(UInt8.ofNat (shrU32 ((bst (hst all) (hrest all++pads all.length) j).vals.getD k 0) 8).toNat),(UInt8.ofNat ((bst (hst all) (hrest all++pads all.length) j).vals.getD k 0).toNat)]) (i:=5) H24 Tryz.underlying114 Fa.I5 rfl rfl rfl rfl (Src.ofArr Tryz.underlying114 (H24.arrR (i:=6) rfl)) (one_mapM (fun _=>rfl)) (by omega) (by omega) (fun v25 w25 H25=>(wa rfl<|WL.nil<|WQ.inNormal<|WQ.next<|WC.region<|wo (op_addN (b:=1) rfl rfl (by omega)<|wm rfl<|WL.nil<|WQ.round (k+1,v25) ⟨(by omega),(H25.take 6)⟩ ⟨rfl,rfl,rfl,trivial⟩ (by show 8-(k+1)<8-k; omega))))))))))))))))
 exact WC.exit<|WQ.thenExit<|WQ.thenExit<|WQ.inHere<|WQ.next<|ws<|wm rfl<|wo (op_bytesStr (l:=(outTo (bst (hst all) (hrest all++pads all.length) j) k)) Tryz.underlying114 Tryz.underlying5 Tryz.underlying9 rfl (H22.arrR (i:=5) rfl) rfl<|wa rfl<|wn<|WC.ret<|WQ.out (.tmp rfl .nil) (⟨(by have hk:k=8:=(by omega); subst hk; rw [sumEnd all j (by omega) (by rw [←List.length_append]; omega)]; rfl),H22.fr⟩))
theorem ssum_ok (s:List UInt8) (w:World) (hs:s.length<140737488351300) :
  Calls Tryz.prog 227 #[(str s)] w (fun e w'=>e=.returned (str (sha s))∧Fr [] w w'):=by
 refine enter Tryz.func227 rfl rfl ?_
 have H0:=Own.start w []
 refine ws<|wa rfl<|wn<|ws<|wo (op_callF Fa.C191 rfl ((new_ok _).mono (fun e w1 hq=>?_)))
 obtain ⟨q1,rfl,hq1⟩:=hq
 refine ⟨_,rfl,?_⟩
 have H1:=H0.splice [] [] [.blk q1 [(vU32 (hst ([]:List UInt8)).a),(vU32 (hst ([]:List UInt8)).b),(vU32 (hst ([]:List UInt8)).c),(vU32 (hst ([]:List UInt8)).d),(vU32 (hst ([]:List UInt8)).e),(vU32 (hst ([]:List UInt8)).f),(vU32 (hst ([]:List UInt8)).g),(vU32 (hst ([]:List UInt8)).h),(.slice none 0 0),(vN ([]:List UInt8).length)] 325,.row (.slice none 0 0) 5 1 (hrest ([]:List UInt8)).length (List.map vU8 (hrest ([]:List UInt8)))] rfl rfl hq1 (Fits.solid True.intro (Fits.solid True.intro Fits.nil))
 refine wa rfl<|wn<|ws<|wm rfl<|wm rfl<|wo (op_buildSlice (cs:=[_]) H1 Tryz.underlying59 Fa.I9 rfl rfl rfl rfl (by decide) (by decide) (fun b2 w2 H2=>(wo (op_callF Fa.C193 rfl ((write_ok q1 (.slice none 0 0) (.slice (some ⟨b2,0,none⟩) 1 1) ([]:List UInt8) ([s]) _ _ (H2.part [0,1] rfl rfl) (H2.stayR (I:=[0,1]) (k:=2) rfl rfl rfl) (by simpa using hs) (by simp)).mono (fun e w3 hq=>?_))))))
 obtain ⟨v3,rfl,hq3⟩:=hq
 refine ⟨_,rfl,?_⟩
 have H3:=H2.splice [0,1] [.blk q1 [(vU32 (hst (([]:List UInt8)++[s].flatten)).a),(vU32 (hst (([]:List UInt8)++[s].flatten)).b),(vU32 (hst (([]:List UInt8)++[s].flatten)).c),(vU32 (hst (([]:List UInt8)++[s].flatten)).d),(vU32 (hst (([]:List UInt8)++[s].flatten)).e),(vU32 (hst (([]:List UInt8)++[s].flatten)).f),(vU32 (hst (([]:List UInt8)++[s].flatten)).g),(vU32 (hst (([]:List UInt8)++[s].flatten)).h),v3,(vN (([]:List UInt8)++[s].flatten).length)] 325,.row v3 5 1 (hrest (([]:List UInt8)++[s].flatten)).length (List.map vU8 (hrest (([]:List UInt8)++[s].flatten)))] [] rfl rfl hq3 (Fits.solid True.intro (Fits.solid True.intro Fits.nil))
 exact wn<|ws<|wm rfl<|wo (cq H3 Fa.C195 rfl (hsum_ok q1 v3 (([]:List UInt8)++[s].flatten) _ (H3.cellsAt (i:=0) rfl) (H3.arrR (i:=1) rfl) (by simpa using hs)) fun w4 H4=>(wa rfl<|wn<|WC.ret<|WQ.out (.tmp rfl .nil) (⟨by simp [tup],H4.fr⟩)))
theorem mblock_ok (key:List UInt8) (w:World) (hk:key.length<140737488351300) :
  Calls Tryz.prog 192 #[(str key)] w (fun e w'=>e=.returned (str (blockM key))∧Fr [] w w'):=by
 refine enter Tryz.func192 rfl rfl ?_
 have H0:=Own.start w []
 refine ws<|wa rfl<|wn<|WC.seq<|ws<|wm rfl<|wo (op_lenStr Tryz.underlying9 rfl<|wo (op_gtrN (b:=64) rfl rfl<|wn (wE (key.length>64) (fun hb1 hc1=>?_) (fun hb1 hc1=>?_))))
 ·
  have hl:=sha_length key
  refine WC.region<|wm rfl<|wo (cq H0 Fa.C227 rfl (ssum_ok key _ hk) fun w2 H2=>(wa rfl<|wn<|ws<|wm rfl<|wm rfl<|wo (op_lenStr Tryz.underlying9 rfl<|wo (op_subN (a:=64) rfl rfl (by omega) (by omega)<|wo (op_makeSliceM (f:=vU8) (c:=0) H2 Tryz.underlying114 Fa.I5 rfl rfl (by omega) (by omega) (fun b3 w3 H3=>(wo (op_bytesStr (l:=(List.replicate (64-(sha key).length) 0)) Tryz.underlying114 Tryz.underlying5 Tryz.underlying9 rfl (H3.arrR (i:=0) rfl) rfl<|wo (op_addStr rfl rfl (by first | omega | (rw [List.length_append]; omega) | (simp; omega)) ?_)))))))))
  exact wa rfl<|wn<|WC.ret<|WQ.out (.tmp rfl .nil) (⟨by rw [blockM,keyB,if_pos hc1]; rfl,H3.fr⟩)
 refine WC.skip<|WQ.next<|ws<|wm rfl<|wm rfl<|wo (op_lenStr Tryz.underlying9 rfl<|wo (op_subN (a:=64) rfl rfl (by omega) (by omega)<|wo (op_makeSliceM (f:=vU8) (c:=0) H0 Tryz.underlying114 Fa.I5 rfl rfl (by omega) (by omega) (fun b4 w4 H4=>(wo (op_bytesStr (l:=(List.replicate (64-key.length) 0)) Tryz.underlying114 Tryz.underlying5 Tryz.underlying9 rfl (H4.arrR (i:=0) rfl) rfl<|wo (op_addStr rfl rfl (by first | omega | (rw [List.length_append]; omega) | (simp; omega)) ?_)))))))
 exact wa rfl<|wn<|WC.ret<|WQ.out (.tmp rfl .nil) (⟨by rw [blockM,keyB,if_neg hc1]; rfl,H4.fr⟩)
theorem padded_ok (s:List UInt8) (c:UInt8) (w:World) (hs:s.length<2^40) :
  Calls Tryz.prog 194 #[(str s),(vU8 c)] w (fun e w'=>e=.returned (str (xorL s c))∧Fr [] w w'):=by
 refine enter Tryz.func194 rfl rfl ?_
 have H0:=Own.start w []
 refine ws<|wa rfl<|wn<|ws<|wm rfl<|wo (op_strBytes H0 Tryz.underlying9 Tryz.underlying5 Tryz.underlying114 rfl (by omega) (fun v1 w1 H1=>(wa rfl<|wn<|WC.seq<|ws<|wm rfl<|wo (op_lenA Tryz.underlying114 rfl (H1.arrR (i:=0) rfl)<|wm rfl<|wn<|WC.block<|WC.loop (α:=Nat) (fun k=>[(1,(vU8 c)),(5,v1),(10,(vN s.length)),(11,(vN k))]) (fun k w'=>(k≤s.length)∧Owl.Own [] w w' [.row v1 5 1 s.length (List.map vU8 (xorTo s c k))]) (fun k=>s.length-k) 0 ⟨(by omega),H1⟩ ⟨rfl,rfl,rfl,rfl,trivial⟩ ?_))))
 rintro k w2 ⟨hinv,H2⟩
 show WC _ _ _ _ _ [(1,(vU8 c)),(5,v1),(10,(vN s.length)),(11,(vN k))] _
 refine ws<|wo (op_lssN rfl rfl<|wn<|WC.seq (wE (k<s.length) (fun hb3 hc3=>?_) (fun hb3 hc3=>?_)))
 ·
  exact WC.skip<|WQ.next<|WC.seq<|WC.block<|ws<|wm rfl<|wa rfl<|wn<|WC.region<|wm rfl<|wm rfl<|wo (op_indexAddr1 Tryz.underlying114 Fa.I5 rfl (H2.arrR (i:=0) rfl) rfl (by omega)<|wo (op_load rfl ((H2.arrR (i:=0) rfl).at (get_map vU8 0 (Arr.ltM (H2.arrR (i:=0) rfl) (by omega)))) Tryz.underlying5 rfl<|wm rfl<|wo (op_xorU8 rfl rfl<|wo (op_indexAddr1 Tryz.underlying114 Fa.I5 rfl (H2.arrR (i:=0) rfl) rfl (by omega)<|wo (op_storeRM (i:=0) (f:=vU8) (l:=(xorTo s c k)) (c:=(((xorTo s c k).getD k 0) ^^^ c)) H2 rfl rfl rfl (by omega) rfl Fa.I5 (fun w4 H4=>(WL.nil<|WQ.inNormal<|WQ.next<|WC.region<|wo (op_addN (b:=1) rfl rfl (by omega)<|wm rfl<|WL.nil<|WQ.round (k+1) ⟨(by omega),(Own.rowEq (i:=0) (f:=vU8) H4 rfl (xorTo_step s c (by omega)))⟩ ⟨rfl,rfl,rfl,rfl,trivial⟩ (by omega)))))))))
 exact WC.exit<|WQ.thenExit<|WQ.thenExit<|WQ.inHere<|WQ.next<|ws<|wm rfl<|wo (op_bytesStr (l:=(xorTo s c k)) Tryz.underlying114 Tryz.underlying5 Tryz.underlying9 rfl (H2.arrR (i:=0) rfl) rfl<|wa rfl<|wn<|WC.ret<|WQ.out (.tmp rfl .nil) (⟨by have hk:k=s.length:=(by omega); subst hk; rw [xorTo_end]; rfl,H2.fr⟩))
theorem macnew_ok (key:List UInt8) (w:World) (hk:key.length<140737488351300) :
  Calls Tryz.prog 153 #[(str key)] w (fun e w'=> ∃m q v,e=.returned (ptr m 0)∧Owl.Own [] w w' [.blk m [(ptr q 0),(str (blockM key))] 293,.blk q [(vU32 (hst (xorL (blockM key) 54)).a),(vU32 (hst (xorL (blockM key) 54)).b),(vU32 (hst (xorL (blockM key) 54)).c),(vU32 (hst (xorL (blockM key) 54)).d),(vU32 (hst (xorL (blockM key) 54)).e),(vU32 (hst (xorL (blockM key) 54)).f),(vU32 (hst (xorL (blockM key) 54)).g),(vU32 (hst (xorL (blockM key) 54)).h),v,(vN (xorL (blockM key) 54).length)] 325,.row v 5 1 (hrest (xorL (blockM key) 54)).length ((hrest (xorL (blockM key) 54)).map vU8)]):=by
 refine enter Tryz.func153 rfl rfl ?_
 have H0:=Own.start w []
 refine ws<|wa rfl<|wn<|ws<|wo (op_callF Fa.C191 rfl ((new_ok _).mono (fun e w1 hq=>?_)))
 obtain ⟨q1,rfl,hq1⟩:=hq
 refine ⟨_,rfl,?_⟩
 have H1:=H0.splice [] [] [.blk q1 [(vU32 (hst ([]:List UInt8)).a),(vU32 (hst ([]:List UInt8)).b),(vU32 (hst ([]:List UInt8)).c),(vU32 (hst ([]:List UInt8)).d),(vU32 (hst ([]:List UInt8)).e),(vU32 (hst ([]:List UInt8)).f),(vU32 (hst ([]:List UInt8)).g),(vU32 (hst ([]:List UInt8)).h),(.slice none 0 0),(vN ([]:List UInt8).length)] 325,.row (.slice none 0 0) 5 1 (hrest ([]:List UInt8)).length (List.map vU8 (hrest ([]:List UInt8)))] rfl rfl hq1 (Fits.solid True.intro (Fits.solid True.intro Fits.nil))
 refine wm rfl<|wo (cq H1 Fa.C192 rfl (mblock_ok key _ (by omega)) fun w2 H2=>(wo (op_build (cs:=[_,_]) Fa.I293 Fa.PL293 rfl rfl<|wo (op_box H2 rfl rfl (fun b3 w3 H3=>(wa rfl<|wn<|WC.seq<|WC.draw 10 Fa.M H3 (mh rfl<|oh (fun w1 H1=>op_nilCheck rfl zr)<|oh (fun w1 H1=>op_fieldAddr rfl Fa.F293_0 zr)<|oh (fun w1 H1=>op_load rfl (H1.cell (i:=2) rfl rfl) Tryz.underlying290 rfl zr)<|mh rfl<|oh (fun w1 H1=>op_nilCheck rfl zr)<|oh (fun w1 H1=>op_fieldAddr rfl Fa.F293_1 zr)<|oh (fun w1 H1=>op_load rfl (H1.cell (i:=2) rfl rfl) Tryz.underlying9 rfl zr)<|oh (fun w1 H1=>op_callF Fa.C194 rfl ((padded_ok (blockM key) 54 _ (by rw [blockM_length]; decide)).mono (fun e w2 hq=>⟨_,hq.1,rfl,hq.2⟩)))<|HW.flt (mk:=fun bq=>.slice (some ⟨bq.1,0,none⟩) 1 1) (ent:=fun bq=>.row (.slice (some ⟨bq.1,0,none⟩) 1 1) _ _ _ _) rfl (fun w1 _=>op_buildSlice (cs:=[_]) (Own.start w1 []) Tryz.underlying59 Fa.I9 rfl rfl rfl rfl (by decide) (by decide) (fun bq w2 H2=>⟨(bq,undef),rfl,H2,True.intro⟩))  HW.nil) (by kernel_rfl) ?_))))))
 intro β5 w5 H5
 refine wo (op_callF Fa.C193 rfl ((write_ok q1 (.slice none 0 0) (.slice (some ⟨(β5 9).1,0,none⟩) 1 1) ([]:List UInt8) ([(xorL (blockM key) 54)]) _ _ (H5.part [0,1] rfl rfl) (H5.stayR (I:=[0,1]) (k:=3) rfl rfl rfl) (by simp [xorL_length,blockM_length]) (by simp)).mono (fun e w6 hq=>?_)))
 obtain ⟨v6,rfl,hq6⟩:=hq
 refine ⟨_,rfl,?_⟩
 have H6:=H5.splice [0,1] [.blk q1 [(vU32 (hst (([]:List UInt8)++[(xorL (blockM key) 54)].flatten)).a),(vU32 (hst (([]:List UInt8)++[(xorL (blockM key) 54)].flatten)).b),(vU32 (hst (([]:List UInt8)++[(xorL (blockM key) 54)].flatten)).c),(vU32 (hst (([]:List UInt8)++[(xorL (blockM key) 54)].flatten)).d),(vU32 (hst (([]:List UInt8)++[(xorL (blockM key) 54)].flatten)).e),(vU32 (hst (([]:List UInt8)++[(xorL (blockM key) 54)].flatten)).f),(vU32 (hst (([]:List UInt8)++[(xorL (blockM key) 54)].flatten)).g),(vU32 (hst (([]:List UInt8)++[(xorL (blockM key) 54)].flatten)).h),v6,(vN (([]:List UInt8)++[(xorL (blockM key) 54)].flatten).length)] 325,.row v6 5 1 (hrest (([]:List UInt8)++[(xorL (blockM key) 54)].flatten)).length (List.map vU8 (hrest (([]:List UInt8)++[(xorL (blockM key) 54)].flatten)))] [] rfl rfl hq6 (Fits.solid True.intro (Fits.solid True.intro Fits.nil))
 exact wn<|ws<|wm rfl<|wa rfl<|wn<|WC.ret<|WQ.out (.tmp rfl .nil) (⟨_,_,_,rfl,(by have h:Owl.Own [] w w6 [.blk b3 [(ptr q1 0),(str (blockM key))] 293,.blk q1 [(vU32 (hst (([]:List UInt8)++[(xorL (blockM key) 54)].flatten)).a),(vU32 (hst (([]:List UInt8)++[(xorL (blockM key) 54)].flatten)).b),(vU32 (hst (([]:List UInt8)++[(xorL (blockM key) 54)].flatten)).c),(vU32 (hst (([]:List UInt8)++[(xorL (blockM key) 54)].flatten)).d),(vU32 (hst (([]:List UInt8)++[(xorL (blockM key) 54)].flatten)).e),(vU32 (hst (([]:List UInt8)++[(xorL (blockM key) 54)].flatten)).f),(vU32 (hst (([]:List UInt8)++[(xorL (blockM key) 54)].flatten)).g),(vU32 (hst (([]:List UInt8)++[(xorL (blockM key) 54)].flatten)).h),v6,(vN (([]:List UInt8)++[(xorL (blockM key) 54)].flatten).length)] 325,.row v6 5 1 (hrest (([]:List UInt8)++[(xorL (blockM key) 54)].flatten)).length (List.map vU8 (hrest (([]:List UInt8)++[(xorL (blockM key) 54)].flatten)))]:=H6.sel [2,0,1] rfl rfl; rw [show ([]:List UInt8)++[(xorL (blockM key) 54)].flatten=(xorL (blockM key) 54) from by simp] at h; exact h)⟩)
theorem macw_ok (m q:Nat) (v lv:Value) (B A:List UInt8) (ls:List (List UInt8)) (T:List Nat) (w:World) (H:Owl.Own T w w [.blk m [(ptr q 0),(str B)] 293,.blk q [(vU32 (hst A).a),(vU32 (hst A).b),(vU32 (hst A).c),(vU32 (hst A).d),(vU32 (hst A).e),(vU32 (hst A).f),(vU32 (hst A).g),(vU32 (hst A).h),v,(vN A.length)] 325,.row v 5 1 (hrest A).length ((hrest A).map vU8)]) {nl:Nat} (hA: ∀w1,Fr T w w1→Arr w1 lv 1 nl (ls.map str)) (hb:(A++ls.flatten).length<140737488351300) (hn:ls.length<2^40) :
  Calls Tryz.prog 154 #[(ptr m 0),lv] w (fun e w'=> ∃v,e=.returned (vN 0)∧Owl.Own T w w' [.blk m [(ptr q 0),(str B)] 293,.blk q [(vU32 (hst (A++ls.flatten)).a),(vU32 (hst (A++ls.flatten)).b),(vU32 (hst (A++ls.flatten)).c),(vU32 (hst (A++ls.flatten)).d),(vU32 (hst (A++ls.flatten)).e),(vU32 (hst (A++ls.flatten)).f),(vU32 (hst (A++ls.flatten)).g),(vU32 (hst (A++ls.flatten)).h),v,(vN (A++ls.flatten).length)] 325,.row v 5 1 (hrest (A++ls.flatten)).length ((hrest (A++ls.flatten)).map vU8)]):=by
 refine enter Tryz.func154 rfl rfl<|ws<|wa rfl<|wn<|WC.seq<|ws<|wm rfl<|wo (op_eqlPN Fa.PT245 rfl rfl<|wn<|WC.no rfl rfl<|WC.skip<|WQ.next<|ws<|wm rfl<|wo (op_nilCheck rfl<|wo (op_fieldAddr rfl Fa.F293_0<|wo (op_load rfl (H.cell (i:=0) rfl rfl) Tryz.underlying290 rfl<|wm rfl<|wo (op_callF Fa.C193 rfl ((write_ok q v lv A ls _ _ (H.part [1,2] rfl rfl) (fun w1 hf=>(hA) w1 (H.frPart (I:=[1,2]) rfl hf)) hb hn).mono (fun e w1 hq=>?_)))))))
 obtain ⟨v1,rfl,hq1⟩:=hq
 refine ⟨_,rfl,?_⟩
 have H1:=H.splice [1,2] [.blk q [(vU32 (hst (A++ls.flatten)).a),(vU32 (hst (A++ls.flatten)).b),(vU32 (hst (A++ls.flatten)).c),(vU32 (hst (A++ls.flatten)).d),(vU32 (hst (A++ls.flatten)).e),(vU32 (hst (A++ls.flatten)).f),(vU32 (hst (A++ls.flatten)).g),(vU32 (hst (A++ls.flatten)).h),v1,(vN (A++ls.flatten).length)] 325,.row v1 5 1 (hrest (A++ls.flatten)).length (List.map vU8 (hrest (A++ls.flatten)))] [] rfl rfl hq1 (Fits.solid True.intro (Fits.solid True.intro Fits.nil))
 exact wa rfl<|wn<|WC.ret<|WQ.out (.tmp rfl .nil) (⟨_,rfl,H1⟩)
theorem macs_ok (m q:Nat) (v:Value) (B A:List UInt8) (w:World) (hM:cellsAt w m [(ptr q 0),(str B)]) (hQ:cellsAt w q [(vU32 (hst A).a),(vU32 (hst A).b),(vU32 (hst A).c),(vU32 (hst A).d),(vU32 (hst A).e),(vU32 (hst A).f),(vU32 (hst A).g),(vU32 (hst A).h),v,(vN A.length)]) (hV:Arr w v 1 (hrest A).length (List.map vU8 (hrest A))) (hb:A.length<140737488351300) (hB:B.length<2^30) :
  Calls Tryz.prog 155 #[(ptr m 0)] w (fun e w'=>e=.returned (str (sha (xorL B 92++sha A)))∧Fr [] w w'):=by
 refine enter Tryz.func155 rfl rfl ?_
 have H0:=((((Own.start w []).oldB hM).oldB hQ).oldA hV)
 refine ws<|wa rfl<|wn<|WC.seq<|ws<|wm rfl<|wo (op_eqlPN Fa.PT245 rfl rfl<|wn<|WC.no rfl rfl<|WC.skip<|WQ.next<|ws<|wo (op_callF Fa.C191 rfl ((new_ok _).mono (fun e w1 hq=>?_))))
 obtain ⟨q1,rfl,hq1⟩:=hq
 refine ⟨_,rfl,?_⟩
 have H1:=H0.splice [] [] [.blk q1 [(vU32 (hst ([]:List UInt8)).a),(vU32 (hst ([]:List UInt8)).b),(vU32 (hst ([]:List UInt8)).c),(vU32 (hst ([]:List UInt8)).d),(vU32 (hst ([]:List UInt8)).e),(vU32 (hst ([]:List UInt8)).f),(vU32 (hst ([]:List UInt8)).g),(vU32 (hst ([]:List UInt8)).h),(.slice none 0 0),(vN ([]:List UInt8).length)] 325,.row (.slice none 0 0) 5 1 (hrest ([]:List UInt8)).length (List.map vU8 (hrest ([]:List UInt8)))] rfl rfl hq1 (Fits.solid True.intro (Fits.solid True.intro Fits.nil))
 refine wa rfl<|wn<|WC.seq<|WC.draw 12 Fa.M H1 (mh rfl<|mh rfl<|oh (fun w1 H1=>op_nilCheck rfl zr)<|oh (fun w1 H1=>op_fieldAddr rfl Fa.F293_1 zr)<|oh (fun w1 H1=>op_load rfl (H1.cellO (i:=0) rfl rfl) Tryz.underlying9 rfl zr)<|oh (fun w1 H1=>op_callF Fa.C194 rfl ((padded_ok B 92 _ (by omega)).mono (fun e w2 hq=>⟨_,hq.1,rfl,hq.2⟩)))<|mh rfl<|oh (fun w1 H1=>op_nilCheck rfl zr)<|oh (fun w1 H1=>op_fieldAddr rfl Fa.F293_0 zr)<|oh (fun w1 H1=>op_load rfl (H1.cellO (i:=0) rfl rfl) Tryz.underlying290 rfl zr)<|oh (fun w1 H1=>op_callF Fa.C195 rfl ((hsum_ok q v A _ (H1.cellsAtO (i:=1) rfl) (H1.arrO (i:=2) rfl) (by first | exact hb | (simp [xorL_length,sha_length]; omega))).mono (fun e w2 hq=>⟨_,hq.1,rfl,hq.2⟩)))<|HW.flt (mk:=fun bq=>.slice (some ⟨bq.1,0,none⟩) 2 2) (ent:=fun bq=>.row (.slice (some ⟨bq.1,0,none⟩) 2 2) _ _ _ _) rfl (fun w1 _=>op_buildSlice (cs:=[_,_]) (Own.start w1 []) Tryz.underlying59 Fa.I9 rfl rfl rfl rfl (by decide) (by decide) (fun bq w2 H2=>⟨(bq,undef),rfl,H2,True.intro⟩))  HW.nil) (by kernel_rfl) ?_
 intro β4 w4 H4
 refine wo (op_callF Fa.C193 rfl ((write_ok q1 (.slice none 0 0) (.slice (some ⟨(β4 11).1,0,none⟩) 2 2) ([]:List UInt8) ([(xorL B 92),(sha A)]) _ _ (H4.part [3,4] rfl rfl) (H4.stayR (I:=[3,4]) (k:=5) rfl rfl rfl) (by simp [xorL_length,sha_length]; omega) (by simp)).mono (fun e w5 hq=>?_)))
 obtain ⟨v5,rfl,hq5⟩:=hq
 refine ⟨_,rfl,?_⟩
 have H5:=H4.splice [3,4] [.blk q1 [(vU32 (hst (([]:List UInt8)++[(xorL B 92),(sha A)].flatten)).a),(vU32 (hst (([]:List UInt8)++[(xorL B 92),(sha A)].flatten)).b),(vU32 (hst (([]:List UInt8)++[(xorL B 92),(sha A)].flatten)).c),(vU32 (hst (([]:List UInt8)++[(xorL B 92),(sha A)].flatten)).d),(vU32 (hst (([]:List UInt8)++[(xorL B 92),(sha A)].flatten)).e),(vU32 (hst (([]:List UInt8)++[(xorL B 92),(sha A)].flatten)).f),(vU32 (hst (([]:List UInt8)++[(xorL B 92),(sha A)].flatten)).g),(vU32 (hst (([]:List UInt8)++[(xorL B 92),(sha A)].flatten)).h),v5,(vN (([]:List UInt8)++[(xorL B 92),(sha A)].flatten).length)] 325,.row v5 5 1 (hrest (([]:List UInt8)++[(xorL B 92),(sha A)].flatten)).length (List.map vU8 (hrest (([]:List UInt8)++[(xorL B 92),(sha A)].flatten)))] [] rfl rfl hq5 (Fits.solid True.intro (Fits.solid True.intro Fits.nil))
 refine wn<|ws<|wm rfl<|wo (cq H5 Fa.C195 rfl (hsum_ok q1 v5 (([]:List UInt8)++[(xorL B 92),(sha A)].flatten) _ (H5.cellsAt (i:=3) rfl) (H5.arrR (i:=4) rfl) (by first | exact hb | (simp [xorL_length,sha_length]; omega))) fun w6 H6=>?_)
 exact wa rfl<|wn<|WC.ret<|WQ.out (.tmp rfl .nil) (⟨by simp [tup],H6.fr⟩)
theorem msum_ok (key text:List UInt8) (w:World) (hk:key.length<140737488351300) (ht:text.length<2^39) :
  Calls Tryz.prog 112 #[(str key),(str text)] w (fun e w'=>e=.returned (str (mac key text))∧Fr [] w w'):=by
 refine enter Tryz.func112 rfl rfl ?_
 have H0:=Own.start w []
 refine ws<|wa rfl<|wn<|ws<|wm rfl<|wo (op_callF Fa.C153 rfl ((macnew_ok key _ (by omega)).mono (fun e w1 hq=>?_)))
 obtain ⟨m1,q1,v1,rfl,hq1⟩:=hq
 refine ⟨_,rfl,?_⟩
 have H1:=H0.splice [] [] [.blk m1 [(ptr q1 0),(str (blockM key))] 293,.blk q1 [(vU32 (hst (xorL (blockM key) 54)).a),(vU32 (hst (xorL (blockM key) 54)).b),(vU32 (hst (xorL (blockM key) 54)).c),(vU32 (hst (xorL (blockM key) 54)).d),(vU32 (hst (xorL (blockM key) 54)).e),(vU32 (hst (xorL (blockM key) 54)).f),(vU32 (hst (xorL (blockM key) 54)).g),(vU32 (hst (xorL (blockM key) 54)).h),v1,(vN (xorL (blockM key) 54).length)] 325,.row v1 5 1 (hrest (xorL (blockM key) 54)).length (List.map vU8 (hrest (xorL (blockM key) 54)))] rfl rfl hq1 (Fits.solid True.intro (Fits.solid True.intro (Fits.solid True.intro Fits.nil)))
 refine wa rfl<|wn<|ws<|wm rfl<|wm rfl<|wo (op_buildSlice (cs:=[_]) H1 Tryz.underlying59 Fa.I9 rfl rfl rfl rfl (by decide) (by decide) (fun b2 w2 H2=>(wo (op_callF Fa.C154 rfl ((macw_ok m1 q1 v1 (.slice (some ⟨b2,0,none⟩) 1 1) (blockM key) (xorL (blockM key) 54) ([text]) _ _ (H2.part [0,1,2] rfl rfl) (H2.stayR (I:=[0,1,2]) (k:=3) rfl rfl rfl) (by simp [xorL_length,blockM_length]; omega) (by simp)).mono (fun e w3 hq=>?_))))))
 obtain ⟨v3,rfl,hq3⟩:=hq
 refine ⟨_,rfl,?_⟩
 have H3:=H2.splice [0,1,2] [.blk m1 [(ptr q1 0),(str (blockM key))] 293,.blk q1 [(vU32 (hst ((xorL (blockM key) 54)++[text].flatten)).a),(vU32 (hst ((xorL (blockM key) 54)++[text].flatten)).b),(vU32 (hst ((xorL (blockM key) 54)++[text].flatten)).c),(vU32 (hst ((xorL (blockM key) 54)++[text].flatten)).d),(vU32 (hst ((xorL (blockM key) 54)++[text].flatten)).e),(vU32 (hst ((xorL (blockM key) 54)++[text].flatten)).f),(vU32 (hst ((xorL (blockM key) 54)++[text].flatten)).g),(vU32 (hst ((xorL (blockM key) 54)++[text].flatten)).h),v3,(vN ((xorL (blockM key) 54)++[text].flatten).length)] 325,.row v3 5 1 (hrest ((xorL (blockM key) 54)++[text].flatten)).length (List.map vU8 (hrest ((xorL (blockM key) 54)++[text].flatten)))] [] rfl rfl hq3 (Fits.solid True.intro (Fits.solid True.intro (Fits.solid True.intro Fits.nil)))
 exact wn<|ws<|wm rfl<|wo (cq H3 Fa.C155 rfl (macs_ok m1 q1 v3 (blockM key) ((xorL (blockM key) 54)++[text].flatten) _ (H3.cellsAt (i:=0) rfl) (H3.cellsAt (i:=1) rfl) (H3.arrR (i:=2) rfl) (by simp [xorL_length,blockM_length]; omega) (by rw [blockM_length]; decide)) fun w4 H4=>(wa rfl<|wn<|WC.ret<|WQ.out (.tmp rfl .nil) (⟨by simp [tup,mac],H4.fr⟩)))
theorem mcheck_ok (key text s:List UInt8) (w:World) (hk:key.length<140737488351300) (ht:text.length<2^39) :
  Calls Tryz.prog 115 #[(str key),(str text),(str s)] w (fun e w'=>e=.returned (.bool (decide (s=mac key text)))∧Fr [] w w'):=by
 refine enter Tryz.func115 rfl rfl ?_
 have H0:=Own.start w []
 have hl:=mac_length key text
 refine ws<|wa rfl<|wn<|ws<|wm rfl<|wm rfl<|wo (cq H0 Fa.C112 rfl (msum_ok key text _ (by omega) ht) fun w1 H1=>(wa rfl<|wn<|WC.seq<|ws<|wm rfl<|wo (op_lenStr Tryz.underlying9 rfl<|wm rfl<|wo (op_lenStr Tryz.underlying9 rfl<|wo (op_neqN rfl rfl<|wn (wE (s.length≠(mac key text).length) (fun hb2 hc2=>?_) (fun hb2 hc2=>?_)))))))
 ·
  exact ws<|wa rfl<|wn<|WC.ret<|WQ.thenRet<|WQ.out (.tmp rfl .nil) (⟨by rw [ne_of_length hc2]; rfl,H1.fr⟩)
 refine WC.skip<|WQ.next<|ws<|wa rfl<|wn<|WC.seq<|ws<|wm rfl<|wo (op_lenStr Tryz.underlying9 rfl<|wm rfl<|wn<|WC.block<|WC.loop (α:=Nat) (fun k=>[(2,(str s)),(7,(str (mac key text))),(8,(vU8 (orTo s (mac key text) k))),(19,(vN (mac key text).length)),(20,(vN k))]) (fun k w'=>(k≤(mac key text).length)∧Owl.Own [] w w' []) (fun k=>(mac key text).length-k) 0 ⟨(by omega),H1⟩ ⟨rfl,rfl,rfl,rfl,rfl,trivial⟩ ?_)
 rintro k w3 ⟨hinv,H3⟩
 show WC _ _ _ _ _ [(2,(str s)),(7,(str (mac key text))),(8,(vU8 (orTo s (mac key text) k))),(19,(vN (mac key text).length)),(20,(vN k))] _
 refine ws<|wo (op_lssN rfl rfl<|wn<|WC.seq (wE (k<(mac key text).length) (fun hb4 hc4=>?_) (fun hb4 hc4=>?_)))
 ·
  refine WC.skip<|WQ.next<|WC.seq<|WC.block<|ws<|wm rfl<|wa rfl<|wn<|WC.draw 10 Fa.M H3 (mh rfl<|mh rfl<|mh rfl<|oh (fun w1 H1=>op_indexStrD Tryz.underlying9 rfl rfl (by omega) zr)<|mh rfl<|mh rfl<|oh (fun w1 H1=>op_indexStrD Tryz.underlying9 rfl rfl (by omega) zr)<|oh (fun w1 H1=>op_xorU8 rfl rfl zr)<|oh (fun w1 H1=>op_orU8 rfl rfl zr)<|ah rfl  HW.nil) (by kernel_rfl) ?_
  intro β5 w5 H5
  exact WL.nil<|WQ.inNormal<|WQ.next<|WC.region<|wo (op_addN (b:=1) rfl rfl (by omega)<|wm rfl<|WL.nil<|WQ.round (k+1) ⟨(by omega),H5⟩ ⟨rfl,rfl,rfl,rfl,rfl,trivial⟩ (by omega))
 exact WC.exit<|WQ.thenExit<|WQ.thenExit<|WQ.inHere<|WQ.next<|ws<|wm rfl<|wo (op_eqlU8 (b:=0) rfl rfl<|wa rfl<|wn<|WC.ret<|WQ.out (.tmp rfl .nil) (⟨by have hk2:k=(mac key text).length:=(by omega); subst hk2; rw [orTo_eq (by omega)]; rfl,H3.fr⟩))
theorem cc_new (b:Nat) (v:Value) (T0:TypeId) (T:List Nat) (w:World) (H:Owl.Own T w w [.blk b [(.pointer none),v] T0]) (hc:Tryz.prog.cellsOf T0=2) (hl:liesAt Tryz.prog Tryz.prog.depth T0 1 0 175 1=true) :
  Calls Tryz.prog 150 #[(ptr b 0)] w (fun e w'=>e=.returned undef∧Owl.Own T w w' [.blk b [ptr b 0,v] T0]):=by
 exact enter Tryz.func150 rfl rfl<|ws<|wm rfl<|wo (op_nilCheck rfl<|wo (op_fieldAddr rfl Fa.F175_0<|wo (op_load rfl (H.cell (i:=0) rfl rfl) Tryz.underlying173 rfl<|wo (op_eqlPN Fa.PT173 rfl rfl<|wn<|WC.yes rfl rfl<|WC.region<|wm rfl<|wm rfl<|wo (op_toUnsafe (i:=0) H Tryz.underlying173 Tryz.underlying285 Fa.CO175 rfl rfl rfl<|wo (op_noEscape Tryz.func186 (by kernel_rfl) (by kernel_rfl) (by kernel_rfl) (by kernel_rfl) rfl<|wo (op_fromUnsafe (i:=0) H Tryz.underlying285 Tryz.underlying173 Fa.CO175 rfl rfl rfl hc hl<|wo (op_nilCheck rfl<|wo (op_fieldAddr rfl Fa.F175_0<|wo (op_storeB (i:=0) H rfl rfl rfl rfl rfl Fa.I173 (fun w1 H1=>(WL.nil<|WQ.outEnd .nil (⟨rfl,H1⟩)))))))))))))
theorem cc_old (b:Nat) (v:Value) (T0:TypeId) (T:List Nat) (w:World) (H:Owl.Own T w w [.blk b [(ptr b 0),v] T0]) (_hc:Tryz.prog.cellsOf T0=2) (_hl:liesAt Tryz.prog Tryz.prog.depth T0 1 0 175 1=true) :
  Calls Tryz.prog 150 #[(ptr b 0)] w (fun e w'=>e=.returned undef∧Owl.Own T w w' [.blk b [ptr b 0,v] T0]):=by
 exact enter Tryz.func150 rfl rfl<|ws<|wm rfl<|wo (op_nilCheck rfl<|wo (op_fieldAddr rfl Fa.F175_0<|wo (op_load rfl (H.cell (i:=0) rfl rfl) Tryz.underlying173 rfl<|wo (op_eqlPN Fa.PT173 rfl rfl<|wn<|WC.no rfl rfl<|ws<|wm rfl<|wo (op_nilCheck rfl<|wo (op_fieldAddr rfl Fa.F175_0<|wo (op_load rfl (H.cell (i:=0) rfl rfl) Tryz.underlying173 rfl<|wm rfl<|wo (op_neqPP Tryz.underlying173 Fa.CO175 rfl rfl<|wn<|WC.no rfl rfl<|WC.skip<|WQ.outEnd .nil (⟨rfl,H⟩)))))))))
theorem cc_ok (b:Nat) (A v:Value) (T0:TypeId) (T:List Nat) (w:World) (H:Owl.Own T w w [.blk b [A,v] T0]) (hA:A=.pointer none∨A=ptr b 0) (hc:Tryz.prog.cellsOf T0=2) (hl:liesAt Tryz.prog Tryz.prog.depth T0 1 0 175 1=true) :
    Calls Tryz.prog 150 #[ptr b 0] w (fun e w'=>e=.returned undef∧Owl.Own T w w' [.blk b [ptr b 0,v] T0]):=by
  rcases hA with rfl | rfl
  · exact cc_new b v T0 T w H hc hl
  · exact cc_old b v T0 T w H hc hl
theorem ws_ok (b:Nat) (A v:Value) (n:Nat) (bs s:List UInt8) (T0:TypeId) (T:List Nat) (w:World) (H:Owl.Own T w w [.blk b [A,v] T0,.row v 5 1 n (List.map vU8 bs)]) (hA:A=.pointer none∨A=ptr b 0) (hc:Tryz.prog.cellsOf T0=2) (hl:liesAt Tryz.prog Tryz.prog.depth T0 1 0 175 1=true) (hs:n+s.length<2^46) :
  Calls Tryz.prog 106 #[(ptr b 0),(str s)] w (fun e w'=> ∃v,e=.returned (.tuple #[vN s.length,.nilIface])∧Owl.Own T w w' [.blk b [ptr b 0,v] T0,.row v 5 1 (n+s.length) (List.map vU8 (bs++s))]):=by
 refine enter Tryz.func106 rfl rfl<|ws<|wa rfl<|wa rfl<|wn<|ws<|wm rfl<|wo (op_callF Fa.C150 rfl ((cc_ok b A v T0 _ _ (H.part [0] rfl rfl) hA hc hl).mono (fun e w1 hq=>?_)))
 obtain ⟨rfl,hq1⟩:=hq
 refine ⟨_,rfl,?_⟩
 have H1:=H.splice [0] [.blk b [(ptr b 0),v] T0] [] rfl rfl hq1 (Fits.solid True.intro Fits.nil)
 exact wn<|ws<|wm rfl<|wm rfl<|wo (op_nilCheck rfl<|wo (op_fieldAddr rfl Fa.F175_1<|wo (op_load rfl (H1.cell (i:=0) rfl rfl) Tryz.underlying114 rfl<|wm rfl<|wo (op_appendM (f:=vU8) (l:=bs) (l':=s) (i:=1) H1 Tryz.underlying114 Fa.I5 rfl rfl rfl rfl (Src.ofStr Tryz.underlying9) (one_mapM (fun _=>rfl)) (by omega) (by omega) (fun v2 w2 H2=>(wo (op_nilCheck rfl<|wo (op_fieldAddr rfl Fa.F175_1<|wo (op_storeB (i:=0) H2 rfl rfl rfl rfl (Arr.one (H2.arrR (i:=1) rfl)) Fa.I114 (fun w3 H3=>(wn<|ws<|wm rfl<|wo (op_lenStr Tryz.underlying9 rfl<|wa rfl<|wa rfl<|wn<|WC.ret<|WQ.out (.tmp rfl (.tmp rfl .nil)) (⟨_,rfl,H3⟩)))))))))))))
theorem bstr_1 (b:Nat) (A:Value) (n:Nat) (bs:List UInt8) (T0:TypeId) (a0:Option Addr) (cap:Nat) (T:List Nat) (w:World) (H:Owl.Own T w w [.blk b [A,(.slice a0 n cap)] T0,.row (.slice a0 n cap) 5 1 n (List.map vU8 bs)]) (hz:a0=none∨cap≠0) :
  Calls Tryz.prog 109 #[(ptr b 0)] w (fun e w'=>e=.returned (str bs)∧Fr T w w'):=by
 refine enter Tryz.func109 rfl rfl<|ws<|wa rfl<|wn<|WC.seq<|WC.draw 10 Fa.M H (mh rfl<|oh (fun w1 H1=>op_nilCheck rfl zr)<|oh (fun w1 H1=>op_fieldAddr rfl Fa.F175_1 zr)<|oh (fun w1 H1=>op_load rfl (H1.cell (i:=0) rfl rfl) Tryz.underlying114 rfl zr)<|oh (fun w1 H1=>op_sliceData rfl hz zr)<|mh rfl<|oh (fun w1 H1=>op_nilCheck rfl zr)<|oh (fun w1 H1=>op_fieldAddr rfl Fa.F175_1 zr)<|oh (fun w1 H1=>op_load rfl (H1.cell (i:=0) rfl rfl) Tryz.underlying114 rfl zr)<|oh (fun w1 H1=>op_lenA Tryz.underlying114 rfl (H1.arrR (i:=1) rfl) zr)  HW.nil) (by kernel_rfl) ?_
 intro β1 w1 H1
 exact wo (op_unsafeString (i:=1) H1 rfl Tryz.underlying243 Fa.CO5 rfl rfl (fun w2 H2=>(wa rfl<|wn<|WC.ret<|WQ.out (.tmp rfl .nil) (⟨rfl,H1.frPart (I:=[1]) rfl H2⟩))))
theorem bstr_ok (b:Nat) (A v:Value) (n:Nat) (bs:List UInt8) (T0:TypeId) (T:List Nat) (w:World) (H:Owl.Own T w w [.blk b [A,v] T0,.row v 5 1 n (List.map vU8 bs)]) (hz:v=.slice none 0 0∨n≠0) :
  Calls Tryz.prog 109 #[ptr b 0] w (fun e w'=>e=.returned (str bs)∧Fr T w w'):=by
 obtain ⟨a0,cap,rfl,h⟩:=H.rowForm (i:=1) rfl hz
 exact bstr_1 b A n bs T0 a0 cap T w H h
theorem find_in (k:Nat) (bv ev xv cv nv:Value) (pg:UInt32) (m n:Nat) (es:List Value) (B:List (List UInt8)) (id j:UInt32) (w:World) (hK:cellsAt w k [(vU32 pg),xv,cv,nv,bv]) (hV:Arr w bv 1 m es) (hE:Arr w ev 1 n (List.map str B)) (hid:id.toNat<m) (hev:es[id.toNat]?=some ev) (hj:j.toNat<n) :
  Calls Tryz.prog 119 #[(ptr k 0),(vU32 id),(vU32 j)] w (fun e w'=>e=.returned (.pointer (some (sp ev j.toNat)))∧Fr [] w w'):=by
 refine enter Tryz.func119 rfl rfl ?_
 have H0:=((((Own.start w []).oldB hK).oldA hV).oldA hE)
 exact ws<|wa rfl<|wn<|WC.seq<|ws<|wm rfl<|wo (op_convU32N (hs:=Tryz.underlying22) (hd:=Tryz.underlying3) rfl<|wm rfl<|wo (op_nilCheck rfl<|wo (op_fieldAddr rfl Fa.F193_3<|wo (op_load rfl (H0.cellO (i:=0) rfl rfl) Tryz.underlying191 rfl<|wo (op_lenA Tryz.underlying191 rfl (H0.arrO (i:=1) rfl)<|wo (op_geqN rfl rfl<|wm rfl<|WL.yes rfl rfl rfl (decide_eq_false (by omega)) rfl (op_move rfl<|WL.yes rfl rfl rfl (decide_eq_false (by omega)) rfl (op_convU32N (hs:=Tryz.underlying22) (hd:=Tryz.underlying3) rfl<|WL.yes rfl rfl rfl (decide_eq_false (by omega)) rfl (op_move rfl<|WL.yes rfl rfl rfl (decide_eq_false (by omega)) rfl (op_nilCheck rfl<|WL.yes rfl rfl rfl (decide_eq_false (by omega)) rfl (op_fieldAddr rfl Fa.F193_3<|WL.yes rfl rfl rfl (decide_eq_false (by omega)) rfl (op_load rfl (H0.cellO (i:=0) rfl rfl) Tryz.underlying191 rfl<|WL.yes rfl rfl rfl (decide_eq_false (by omega)) rfl (op_move rfl<|WL.yes rfl rfl rfl (decide_eq_false (by omega)) rfl (op_indexAddr1 Tryz.underlying191 Fa.I59 rfl (H0.arrO (i:=1) rfl) rfl (by omega)<|WL.yes rfl rfl rfl (decide_eq_false (by omega)) rfl (op_load rfl ((H0.arrO (i:=1) rfl).at hev) Tryz.underlying59 rfl<|WL.yes rfl rfl rfl (decide_eq_false (by omega)) rfl (op_lenA Tryz.underlying59 rfl (H0.arrO (i:=2) rfl)<|WL.yes rfl rfl rfl (decide_eq_false (by omega)) rfl (op_geqN rfl rfl<|wo (op_pickF rfl (decide_eq_false (by omega)) rfl<|wn<|WC.no rfl (decide_eq_false (by omega))<|WC.skip<|WQ.next<|ws<|wm rfl<|wo (op_nilCheck rfl<|wo (op_fieldAddr rfl Fa.F193_3<|wo (op_load rfl (H0.cellO (i:=0) rfl rfl) Tryz.underlying191 rfl<|wm rfl<|wo (op_indexAddr1 Tryz.underlying191 Fa.I59 rfl (H0.arrO (i:=1) rfl) rfl (by omega)<|wo (op_load rfl ((H0.arrO (i:=1) rfl).at hev) Tryz.underlying59 rfl<|wm rfl<|wo (op_indexAddr1 Tryz.underlying59 Fa.I9 rfl (H0.arrO (i:=2) rfl) rfl (by omega)<|wa rfl<|wn<|WC.ret<|WQ.out (.tmp rfl .nil) (⟨rfl,H0.fr⟩)))))))))))))))))))))))))
theorem kblk_in (k:Nat) (bv ev xv cv nv:Value) (pg:UInt32) (m n:Nat) (es:List Value) (B:List (List UInt8)) (id j:UInt32) (w:World) (hK:cellsAt w k [(vU32 pg),xv,cv,nv,bv]) (hV:Arr w bv 1 m es) (hE:Arr w ev 1 n (List.map str B)) (hid:id.toNat<m) (hev:es[id.toNat]?=some ev) (hj:j.toNat<n) :
  Calls Tryz.prog 69 #[(ptr k 0),(vU32 id),(vU32 j)] w (fun e w'=>e=.returned (.tuple #[str (B.getD j.toNat []),vN 0])∧Fr [] w w'):=by
 refine enter Tryz.func69 rfl rfl ?_
 have H0:=((((Own.start w []).oldB hK).oldA hV).oldA hE)
 exact ws<|wa rfl<|wa rfl<|wn<|WC.seq<|ws<|wm rfl<|wo (op_eqlPN Fa.PT111 rfl rfl<|wn<|WC.no rfl rfl<|WC.skip<|WQ.next<|WC.seq<|ws<|wm rfl<|wm rfl<|wm rfl<|wo (cq H0 Fa.C119 rfl (find_in k bv ev xv cv nv pg m n es B id j _ (H0.cellsAtO (i:=0) rfl) (H0.arrO (i:=1) rfl) (H0.arrO (i:=2) rfl) hid hev hj) fun w1 H1=>(wa rfl<|wn<|ws<|wm rfl<|wo (op_neqPN Fa.PT201 rfl rfl<|wn<|WC.yes rfl rfl<|ws<|wm rfl<|wo (op_nilCheck rfl<|wo (op_load rfl ((H1.arrO (i:=2) rfl).at (get_map str [] (Arr.ltM (H1.arrO (i:=2) rfl) (by omega)))) Tryz.underlying9 rfl<|wa rfl<|wa rfl<|wn<|WC.ret<|WQ.thenRet<|WQ.out (.tmp rfl (.tmp rfl .nil)) (⟨rfl,H1.fr⟩)))))))
theorem find_out (k:Nat) (bv ev xv cv nv:Value) (pg:UInt32) (m n:Nat) (es:List Value) (B:List (List UInt8)) (id j:UInt32) (w:World) (hK:cellsAt w k [(vU32 pg),xv,cv,nv,bv]) (hV:Arr w bv 1 m es) (hE:Arr w ev 1 n (List.map str B)) (hid:id.toNat<m) (hev:es[id.toNat]?=some ev) (hj:¬j.toNat<n) :
  Calls Tryz.prog 119 #[(ptr k 0),(vU32 id),(vU32 j)] w (fun e w'=>e=.returned (.pointer none)∧Fr [] w w'):=by
 refine enter Tryz.func119 rfl rfl ?_
 have H0:=((((Own.start w []).oldB hK).oldA hV).oldA hE)
 exact ws<|wa rfl<|wn<|WC.seq<|ws<|wm rfl<|wo (op_convU32N (hs:=Tryz.underlying22) (hd:=Tryz.underlying3) rfl<|wm rfl<|wo (op_nilCheck rfl<|wo (op_fieldAddr rfl Fa.F193_3<|wo (op_load rfl (H0.cellO (i:=0) rfl rfl) Tryz.underlying191 rfl<|wo (op_lenA Tryz.underlying191 rfl (H0.arrO (i:=1) rfl)<|wo (op_geqN rfl rfl<|wm rfl<|WL.yes rfl rfl rfl (decide_eq_false (by omega)) rfl (op_move rfl<|WL.yes rfl rfl rfl (decide_eq_false (by omega)) rfl (op_convU32N (hs:=Tryz.underlying22) (hd:=Tryz.underlying3) rfl<|WL.yes rfl rfl rfl (decide_eq_false (by omega)) rfl (op_move rfl<|WL.yes rfl rfl rfl (decide_eq_false (by omega)) rfl (op_nilCheck rfl<|WL.yes rfl rfl rfl (decide_eq_false (by omega)) rfl (op_fieldAddr rfl Fa.F193_3<|WL.yes rfl rfl rfl (decide_eq_false (by omega)) rfl (op_load rfl (H0.cellO (i:=0) rfl rfl) Tryz.underlying191 rfl<|WL.yes rfl rfl rfl (decide_eq_false (by omega)) rfl (op_move rfl<|WL.yes rfl rfl rfl (decide_eq_false (by omega)) rfl (op_indexAddr1 Tryz.underlying191 Fa.I59 rfl (H0.arrO (i:=1) rfl) rfl (by omega)<|WL.yes rfl rfl rfl (decide_eq_false (by omega)) rfl (op_load rfl ((H0.arrO (i:=1) rfl).at hev) Tryz.underlying59 rfl<|WL.yes rfl rfl rfl (decide_eq_false (by omega)) rfl (op_lenA Tryz.underlying59 rfl (H0.arrO (i:=2) rfl)<|WL.yes rfl rfl rfl (decide_eq_false (by omega)) rfl (op_geqN rfl rfl<|wo (op_pickF rfl (decide_eq_false (by omega)) rfl<|wn<|WC.yes rfl (decide_eq_true (by omega))<|ws<|wa rfl<|wn<|WC.ret<|WQ.thenRet<|WQ.out (.tmp rfl .nil) (⟨rfl,H0.fr⟩)))))))))))))))))))
theorem kblk_out (k:Nat) (bv ev xv cv nv:Value) (pg:UInt32) (m n:Nat) (es:List Value) (B:List (List UInt8)) (id j:UInt32) (w:World) (hK:cellsAt w k [(vU32 pg),xv,cv,nv,bv]) (hV:Arr w bv 1 m es) (hE:Arr w ev 1 n (List.map str B)) (hid:id.toNat<m) (hev:es[id.toNat]?=some ev) (hj:¬j.toNat<n) :
  Calls Tryz.prog 69 #[(ptr k 0),(vU32 id),(vU32 j)] w (fun e w'=>e=.returned (.tuple #[str [],vN 2])∧Fr [] w w'):=by
 refine enter Tryz.func69 rfl rfl ?_
 have H0:=((((Own.start w []).oldB hK).oldA hV).oldA hE)
 exact ws<|wa rfl<|wa rfl<|wn<|WC.seq<|ws<|wm rfl<|wo (op_eqlPN Fa.PT111 rfl rfl<|wn<|WC.no rfl rfl<|WC.skip<|WQ.next<|WC.seq<|ws<|wm rfl<|wm rfl<|wm rfl<|wo (cq H0 Fa.C119 rfl (find_out k bv ev xv cv nv pg m n es B id j _ (H0.cellsAtO (i:=0) rfl) (H0.arrO (i:=1) rfl) (H0.arrO (i:=2) rfl) hid hev hj) fun w1 H1=>(wa rfl<|wn<|ws<|wm rfl<|wo (op_neqPN Fa.PT201 rfl rfl<|wn<|WC.no rfl rfl<|WC.skip<|WQ.next<|ws<|wa rfl<|wa rfl<|wn<|WC.ret<|WQ.out (.tmp rfl (.tmp rfl .nil)) (⟨rfl,H1.fr⟩)))))
theorem kern_ok (x k:Nat) (w:World) (hX:cellsAt w x [(ptr k 0)]) :
  Calls Tryz.prog 58 #[(ptr x 0)] w (fun e w'=>e=.returned (ptr k 0)∧Fr [] w w'):=by
 refine enter Tryz.func58 rfl rfl ?_
 have H0:=((Own.start w []).oldB hX)
 exact ws<|wa rfl<|wn<|WC.seq<|ws<|wm rfl<|wo (op_eqlPN Fa.PT47 rfl rfl<|wn<|WC.no rfl rfl<|WC.skip<|WQ.next<|ws<|wm rfl<|wo (op_nilCheck rfl<|wo (op_fieldAddr rfl Fa.F146_0<|wo (op_load rfl (H0.cellO (i:=0) rfl rfl) Tryz.underlying111 rfl<|wa rfl<|wn<|WC.ret<|WQ.out (.tmp rfl .nil) (⟨rfl,H0.fr⟩)))))
theorem xblk_in (x:Nat) (k:Nat) (bv ev xv cv nv:Value) (pg:UInt32) (m n:Nat) (es:List Value) (B:List (List UInt8)) (id:UInt32) (j:Nat) (w:World) (hX:cellsAt w x [(ptr k 0)]) (hK:cellsAt w k [(vU32 pg),xv,cv,nv,bv]) (hV:Arr w bv 1 m es) (hE:Arr w ev 1 n (List.map str B)) (hid:id.toNat<m) (hev:es[id.toNat]?=some ev) (hj:j<n) (hj2:j<2^32) :
  Calls Tryz.prog 29 #[(ptr x 0),(vU32 id),(vU32 (UInt32.ofNat j))] w (fun e w'=>e=.returned (.tuple #[str (B.getD j []),vN 0])∧Fr [] w w'):=by
 refine enter Tryz.func29 rfl rfl ?_
 have H0:=(((((Own.start w []).oldB hX).oldB hK).oldA hV).oldA hE)
 have hjj:(UInt32.ofNat j).toNat=j:=by rw [UInt32.toNat_ofNat']; exact Nat.mod_eq_of_lt (by omega)
 exact ws<|wa rfl<|wa rfl<|wn<|ws<|wm rfl<|wo (cq H0 Fa.C58 rfl (kern_ok x k _ (H0.cellsAtO (i:=0) rfl)) fun w1 H1=>(wm rfl<|wm rfl<|wo (cq H1 Fa.C69 rfl (kblk_in k bv ev xv cv nv pg m n es B id (UInt32.ofNat j) _ (H1.cellsAtO (i:=1) rfl) (H1.arrO (i:=2) rfl) (H1.arrO (i:=3) rfl) hid hev (by omega)) fun w2 H2=>(we rfl rfl<|we rfl rfl<|wa rfl<|wa rfl<|wn<|WC.ret<|WQ.out (.tmp rfl (.tmp rfl .nil)) (⟨by rw [hjj]; rfl,H2.fr⟩)))))
theorem xblk_out (x:Nat) (k:Nat) (bv ev xv cv nv:Value) (pg:UInt32) (m n:Nat) (es:List Value) (B:List (List UInt8)) (id:UInt32) (j:Nat) (w:World) (hX:cellsAt w x [(ptr k 0)]) (hK:cellsAt w k [(vU32 pg),xv,cv,nv,bv]) (hV:Arr w bv 1 m es) (hE:Arr w ev 1 n (List.map str B)) (hid:id.toNat<m) (hev:es[id.toNat]?=some ev) (hj:¬j<n) (hj2:j<2^32) :
  Calls Tryz.prog 29 #[(ptr x 0),(vU32 id),(vU32 (UInt32.ofNat j))] w (fun e w'=>e=.returned (.tuple #[str [],vN 2])∧Fr [] w w'):=by
 refine enter Tryz.func29 rfl rfl ?_
 have H0:=(((((Own.start w []).oldB hX).oldB hK).oldA hV).oldA hE)
 have hjj:(UInt32.ofNat j).toNat=j:=by rw [UInt32.toNat_ofNat']; exact Nat.mod_eq_of_lt (by omega)
 exact ws<|wa rfl<|wa rfl<|wn<|ws<|wm rfl<|wo (cq H0 Fa.C58 rfl (kern_ok x k _ (H0.cellsAtO (i:=0) rfl)) fun w1 H1=>(wm rfl<|wm rfl<|wo (cq H1 Fa.C69 rfl (kblk_out k bv ev xv cv nv pg m n es B id (UInt32.ofNat j) _ (H1.cellsAtO (i:=1) rfl) (H1.arrO (i:=2) rfl) (H1.arrO (i:=3) rfl) hid hev (by omega)) fun w2 H2=>(we rfl rfl<|we rfl rfl<|wa rfl<|wa rfl<|wn<|WC.ret<|WQ.out (.tmp rfl (.tmp rfl .nil)) (⟨rfl,H2.fr⟩)))))
theorem kset_ok (k:Nat) (bv ev xv cv nv:Value) (pg:UInt32) (m n:Nat) (es:List Value) (B:List (List UInt8)) (id j:UInt32) (t:List UInt8) (T:List Nat) (w:World) (H:Owl.Own T w w [Ent.bo k [(vU32 pg),xv,cv,nv,bv],Ent.ar bv 1 m es,.row ev 9 1 n (List.map str B)]) (hid:id.toNat<m) (hev:es[id.toNat]?=some ev) (hj:j.toNat<n) (ht:t.length=64) :
  Calls Tryz.prog 67 #[(ptr k 0),(vU32 id),(vU32 j),(str t)] w (fun e w'=>e=.returned (vN 0)∧Owl.Own T w w' [Ent.bo k [(vU32 pg),xv,cv,nv,bv],Ent.ar bv 1 m es,.row ev 9 1 n (List.map str (B.set j.toNat t))]):=by
 refine enter Tryz.func67 rfl rfl<|ws<|wa rfl<|wn<|WC.seq<|ws<|wm rfl<|wo (op_eqlPN Fa.PT111 rfl rfl<|wn<|WC.no rfl rfl<|WC.skip<|WQ.next<|ws<|wm rfl<|wm rfl<|wm rfl<|wo (op_callF Fa.C119 rfl ((find_in k bv ev xv cv nv pg m n es B id j _ (H.cellsAtO (i:=0) rfl) (H.arrO (i:=1) rfl) (H.arrR (i:=2) rfl) hid hev hj).mono (fun e w1 hq=>?_))))
 obtain ⟨rfl,hf1⟩:=hq
 refine ⟨_,rfl,?_⟩
 have H1:=H.fr' hf1
 exact wa rfl<|wn<|WC.seq<|ws<|wm rfl<|wo (op_eqlPN Fa.PT201 rfl rfl<|wm rfl<|wY rfl (op_move rfl<|wY rfl (op_lenStr Tryz.underlying9 rfl<|wY rfl (op_neqN (b:=64) rfl rfl<|wo (op_pickF rfl rfl rfl<|wn<|WC.no rfl (decide_eq_false (fun h=>h ht))<|WC.skip<|WQ.next<|ws<|wm rfl<|wm rfl<|wo (op_nilCheck rfl<|wo (op_storeRM (i:=2) (f:=str) (l:=B) (c:=t) H1 rfl rfl rfl (by omega) rfl Fa.I9 (fun w2 H2=>(wn<|ws<|wa rfl<|wn<|WC.ret<|WQ.out (.tmp rfl .nil) (⟨rfl,H2⟩))))))))))
theorem xset_ok (x:Nat) (k:Nat) (bv ev xv cv nv:Value) (pg:UInt32) (m n:Nat) (es:List Value) (B:List (List UInt8)) (id:UInt32) (j:Nat) (t:List UInt8) (T:List Nat) (w:World) (H:Owl.Own T w w [Ent.bo x [(ptr k 0)],Ent.bo k [(vU32 pg),xv,cv,nv,bv],Ent.ar bv 1 m es,.row ev 9 1 n (List.map str B)]) (hid:id.toNat<m) (hev:es[id.toNat]?=some ev) (hj0:j<n) (hj2:j<2^32) (ht:t.length=64) :
  Calls Tryz.prog 27 #[(ptr x 0),(vU32 id),(vU32 (UInt32.ofNat j)),(str t)] w (fun e w'=>e=.returned (vN 0)∧Owl.Own T w w' [Ent.bo x [(ptr k 0)],Ent.bo k [(vU32 pg),xv,cv,nv,bv],Ent.ar bv 1 m es,.row ev 9 1 n (List.map str (B.set j t))]):=by
 refine enter Tryz.func27 rfl rfl ?_
 have hjj:(UInt32.ofNat j).toNat=j:=by rw [UInt32.toNat_ofNat']; exact Nat.mod_eq_of_lt (by omega)
 refine ws<|wa rfl<|wn<|ws<|wm rfl<|wo (op_callF Fa.C58 rfl ((kern_ok x k _ (H.cellsAtO (i:=0) rfl)).mono (fun e w1 hq=>?_)))
 obtain ⟨rfl,hf1⟩:=hq
 refine ⟨_,rfl,?_⟩
 have H1:=H.fr' hf1
 refine wm rfl<|wm rfl<|wm rfl<|wo (op_callF Fa.C67 rfl ((kset_ok k bv ev xv cv nv pg m n es B id (UInt32.ofNat j) t _ _ (H1.part [1,2,3] rfl rfl) hid hev (by omega) ht).mono (fun e w2 hq=>?_)))
 obtain ⟨rfl,hq2⟩:=hq
 refine ⟨_,rfl,?_⟩
 have H2:=H1.splice [1,2,3] [Ent.bo k [(vU32 pg),xv,cv,nv,bv],Ent.ar bv 1 m es,.row ev 9 1 n (List.map str (B.set (UInt32.ofNat j).toNat t))] [] rfl rfl hq2 (Fits.same (j:=0) rfl (Fits.same (j:=1) rfl (Fits.solid True.intro Fits.nil)))
 refine wa rfl<|wn<|WC.ret<|WQ.out (.tmp rfl .nil) ?_
 rw [hjj] at H2
 exact ⟨rfl,H2⟩
end Go.Proofs.YtbjhccnffacbcaaGreat
namespace Go.Proofs
open Go.Shelf
def Tryz.lays105_ren:Go.Shelf.Ren:=⟨fun | 105=>152 | 212=>169 | 99=>188 | 165=>189 | 166=>106 | 170=>190 | 169=>109 | 263=>205 | 264=>206 | 206=>224 | 240=>150 | 241=>225 | 276=>186 | 277=>242 | n=>n,fun | 9=>9 | 3=>3 | 4=>4 | 20=>20 | 0=>0 | 46=>265 | 109=>266 | 5=>5 | 72=>175 | 76=>178 | 51=>22 | 146=>304 | 53=>154 | 148=>306 | 70=>173 | 37=>114 | 75=>177 | 127=>243 | 164=>285 | 80=>183 | n=>n,fun | n=>n⟩
theorem Tryz.lays105:Go.Proofs.Lays.n105 Tryz.prog Tryz.lays105_ren:={
 mixed:=by kernel_rfl
 f99:=Tryz.func188.trans (congrArg some (by kernel_rfl))
 f105:=Tryz.func152.trans (congrArg some (by kernel_rfl))
 f165:=Tryz.func189.trans (congrArg some (by kernel_rfl))
 f166:=Tryz.func106.trans (congrArg some (by kernel_rfl))
 f169:=Tryz.func109.trans (congrArg some (by kernel_rfl))
 f170:=Tryz.func190.trans (congrArg some (by kernel_rfl))
 f206:=Tryz.func224.trans (congrArg some (by kernel_rfl))
 f212:=Tryz.func169.trans (congrArg some (by kernel_rfl))
 f240:=Tryz.func150.trans (congrArg some (by kernel_rfl))
 f241:=Tryz.func225.trans (congrArg some (by kernel_rfl))
 f263:=Tryz.func205.trans (congrArg some (by kernel_rfl))
 f264:=Tryz.func206.trans (congrArg some (by kernel_rfl))
 f276:=Tryz.func186.trans (congrArg some (by kernel_rfl))
 f277:=Tryz.func242.trans (congrArg some (by kernel_rfl))
 t0:=Tryz.underlying0
 a0:=Tryz.isAgg0
 z0:=Tryz.sizeOf0
 v0:=Tryz.zeroValue0
 t3:=Tryz.underlying3
 a3:=Tryz.isAgg3
 z3:=Tryz.sizeOf3
 v3:=Tryz.zeroValue3
 t4:=Tryz.underlying4
 a4:=Tryz.isAgg4
 z4:=Tryz.sizeOf4
 v4:=Tryz.zeroValue4
 t5:=Tryz.underlying5
 a5:=Tryz.isAgg5
 z5:=Tryz.sizeOf5
 v5:=Tryz.zeroValue5
 t9:=Tryz.underlying9
 a9:=Tryz.isAgg9
 z9:=Tryz.sizeOf9
 v9:=Tryz.zeroValue9
 t20:=Tryz.underlying20
 a20:=Tryz.isAgg20
 z20:=Tryz.sizeOf20
 v20:=Tryz.zeroValue20
 t37:=Tryz.underlying114
 a37:=Tryz.isAgg114
 z37:=Tryz.sizeOf114
 v37:=Tryz.zeroValue114
 t46:=Tryz.underlying265
 a46:=Tryz.isAgg265
 z46:=Tryz.sizeOf265
 v46:=Tryz.zeroValue265
 t51:=Tryz.underlying22
 a51:=Tryz.isAgg22
 z51:=Tryz.sizeOf22
 v51:=Tryz.zeroValue22
 t53:=Tryz.underlying154
 a53:=Tryz.isAgg154
 z53:=Tryz.sizeOf154
 v53:=Tryz.zeroValue154
 t70:=Tryz.underlying173
 a70:=Tryz.isAgg173
 z70:=Tryz.sizeOf173
 v70:=Tryz.zeroValue173
 t72:=Tryz.underlying175
 a72:=Tryz.isAgg175
 z72:=Tryz.sizeOf175
 v72:=Tryz.zeroValue175
 t75:=Tryz.underlying177
 a75:=Tryz.isAgg177
 z75:=Tryz.sizeOf177
 v75:=Tryz.zeroValue177
 t76:=Tryz.underlying178
 a76:=Tryz.isAgg178
 z76:=Tryz.sizeOf178
 v76:=Tryz.zeroValue178
 t109:=Tryz.underlying266
 a109:=Tryz.isAgg266
 z109:=Tryz.sizeOf266
 v109:=Tryz.zeroValue266
 t127:=Tryz.underlying243
 a127:=Tryz.isAgg243
 z127:=Tryz.sizeOf243
 v127:=Tryz.zeroValue243
 t146:=Tryz.underlying304
 a146:=Tryz.isAgg304
 z146:=Tryz.sizeOf304
 v146:=Tryz.zeroValue304
 t148:=Tryz.underlying306
 a148:=Tryz.isAgg306
 z148:=Tryz.sizeOf306
 v148:=Tryz.zeroValue306
 t164:=Tryz.underlying285
 a164:=Tryz.isAgg285
 z164:=Tryz.sizeOf285
 v164:=Tryz.zeroValue285 }
theorem Tryz.Builder_Extra_105:Builder.Extra Tryz.prog Tryz.lays105_ren:={
 sizeBuilder:=by kernel_rfl
 liesBuilder:=by kernel_rfl
 t5:=Tryz.underlying5
 a5:=Tryz.isAgg5
 z5:=Tryz.sizeOf5
 v5:=Tryz.zeroValue5
 infoByte:=by kernel_rfl
 cellsByte:=by kernel_rfl
 sizeByte:=by kernel_rfl
 neB5:=by decide }
open Go.RowKit Go.Lib in
theorem Tryz.strings_Repeat (s:ByteArray) (c:Nat) (w:World) (hc:c≤9223372036854775807) (hlen:s.size * c≤140737488355328) :
  Calls Tryz.prog 152 #[.string s,.int .i64 c] w fun e w'=>e=.returned (.string ⟨(Lib.repeatL s.data.toList c).toArray⟩)∧Below w.heap.size w w':=Any.strings_Repeat Tryz.lays105 Tryz.Builder_Extra_105 s c w hc hlen
end Go.Proofs
namespace Go.Proofs.YtbjhccnffacbcaaGreat
open Go.Owl Go.Spec
theorem rep0_ok (i:Int) (w:World) (h0:0≤i) (hi:i≤4096) :
  Calls Tryz.prog 152 #[str [0],vI i] w (fun e w'=>e=.returned (str (List.replicate i.toNat 0))∧Fr [] w w'):=by
 obtain ⟨c,rfl⟩: ∃c:Nat,i=(c:Int):=⟨i.toNat,by omega⟩
 refine (Tryz.strings_Repeat ⟨#[0]⟩ c w (by omega) (by show 1 * c≤_; omega)).mono (fun e w' h=>⟨?_,Fr.ofBelow h.2⟩)
 rw [h.1]
 have e: ∀c,Lib.repeatL [(0:UInt8)] c=List.replicate c 0:=by
  intro c
  induction c with
  | zero=>rfl
  | succ c ih=>rw [List.replicate_succ,←ih]; rfl
 show Ending.returned (.string ⟨(Lib.repeatL [(0:UInt8)] c).toArray⟩)=.returned (.string ⟨(List.replicate (c:Int).toNat 0).toArray⟩)
 rw [e]; rfl
theorem room_ok (s:Nat) (xv:Value) (id:UInt32) (key:List UInt8) (each:Nat) (left:Int) (w:World) (hS:cellsAt w s [xv,(vU32 id),(str key),(vN each),(vI left)]) (he:each<2^40) :
  Calls Tryz.prog 15 #[(ptr s 0)] w (fun e w'=>e=.returned (vN (each * 64))∧Fr [] w w'):=by
 refine enter Tryz.func15 rfl rfl ?_
 have H0:=((Own.start w []).oldB hS)
 exact ws<|wa rfl<|wn<|WC.seq<|ws<|wm rfl<|wo (op_eqlPN Fa.PT24 rfl rfl<|wn<|WC.no rfl rfl<|WC.skip<|WQ.next<|ws<|wm rfl<|wo (op_nilCheck rfl<|wo (op_fieldAddr rfl Fa.F95_3<|wo (op_load rfl (H0.cellO (i:=0) rfl rfl) Tryz.underlying3 rfl<|wo (op_mulN (b:=64) rfl rfl (by omega)<|wa rfl<|wn<|WC.ret<|WQ.out (.tmp rfl .nil) (⟨rfl,H0.fr⟩))))))
theorem fuse_ok (s:Nat) (xv:Value) (_ox:xv.oneCell'=true) (id:UInt32) (key:List UInt8) (each:Nat) (left:Int) (n:Int) (T:List Nat) (w:World) (H:Owl.Own T w w [.blk s [xv,(vU32 id),(str key),(vN each),(vI left)] 95]) :
  Calls Tryz.prog 16 #[(ptr s 0),(vI n)] w (fun e w'=>e=.returned (vN 0)∧Owl.Own T w w' [.blk s [xv,(vU32 id),(str key),(vN each),(vI (max n (-1)))] 95]):=by
 exact enter Tryz.func16 rfl rfl<|ws<|wa rfl<|wn<|WC.seq<|ws<|wm rfl<|wo (op_eqlPN Fa.PT24 rfl rfl<|wn<|WC.no rfl rfl<|WC.skip<|WQ.next<|ws<|wm rfl<|wm rfl<|wo (op_maxI (b:=(-1)) rfl rfl<|wo (op_nilCheck rfl<|wo (op_fieldAddr rfl Fa.F95_4<|wo (op_storeB (i:=0) H rfl rfl rfl rfl rfl Fa.I3 (fun w1 H1=>(wn<|ws<|wa rfl<|wn<|WC.ret<|WQ.out (.tmp rfl .nil) (⟨rfl,H1⟩))))))))
theorem slfill_ok (t:List UInt8) (w:World) (ht:t.length<2^40) :
  Calls Tryz.prog 111 #[(str t)] w (fun e w'=>e=.returned (str (pad64 t))∧Fr [] w w'):=by
 refine enter Tryz.func111 rfl rfl ?_
 have H0:=Own.start w []
 refine ws<|wa rfl<|wn<|ws<|wm rfl<|wm rfl<|wo (op_lenStr Tryz.underlying9 rfl<|wo (op_subI (a:=((64:Nat):Int)) (b:=((t.length:Nat):Int)) rfl rfl (by omega)<|wo (op_maxI (a:=(0:Int)) rfl rfl<|wo (cq H0 Fa.C152 rfl (rep0_ok (max (0:Int) (((64:Nat):Int)-((t.length:Nat):Int))) _ (by show (0:Int)≤max _ _; omega) (by show max _ _≤(4096:Int); omega)) fun w1 H1=>?_))))
 exact wo (op_addStr rfl rfl (by rw [List.length_replicate]; omega)<|wa rfl<|wn<|WC.ret<|WQ.out (.tmp rfl .nil) (⟨by rw [pad64,show (max (0:Int) (((64:Nat):Int)-((t.length:Nat):Int))).toNat=64-t.length by show (max _ _:Int).toNat=_; omega]; rfl,H1.fr⟩))
theorem num8_ok (v z:UInt32) (w:World) :
  Calls Tryz.prog 110 #[(vU32 v),(vU32 z)] w (fun e w'=>e=.returned (str (num8 v z))∧Fr [] w w'):=by
 refine enter Tryz.func110 rfl rfl ?_
 have H0:=Own.start w []
 exact ws<|wa rfl<|wn<|ws<|wm rfl<|wo (cq H0 Fa.C151 rfl (put4_ok (v) _) fun w1 H1=>(wm rfl<|we rfl rfl<|we rfl rfl<|wa rfl<|wa rfl<|wn<|ws<|wm rfl<|wo (cq H1 Fa.C151 rfl (put4_ok (z) _) fun w2 H2=>(wm rfl<|we rfl rfl<|we rfl rfl<|wa rfl<|wa rfl<|wn<|ws<|wm rfl<|wm rfl<|wo (op_addStr rfl rfl (by rw [le4_length,le4_length]; decide)<|wa rfl<|wn<|WC.ret<|WQ.out (.tmp rfl .nil) (⟨rfl,H2.fr⟩))))))
theorem head_ok (s:Nat) (xv:Value) (id:UInt32) (key:List UInt8) (each:Nat) (left:Int) (v:UInt32) (t:List UInt8) (w:World) (hS:cellsAt w s [xv,(vU32 id),(str key),(vN each),(vI left)]) (hk:key.length<2^40) (ht:t.length<2^32) :
  Calls Tryz.prog 49 #[(ptr s 0),(vU32 v),(str t)] w (fun e w'=>e=.returned (str (hdrS key v t))∧Fr [] w w'):=by
 refine enter Tryz.func49 rfl rfl ?_
 have H0:=((Own.start w []).oldB hS)
 exact ws<|wa rfl<|wn<|ws<|wm rfl<|wm rfl<|wo (op_lenStr Tryz.underlying9 rfl<|wo (op_convNU32 (hs:=Tryz.underlying3) (hd:=Tryz.underlying22) rfl<|wo (cq H0 Fa.C110 rfl (num8_ok v (UInt32.ofNat t.length) _) fun w1 H1=>(wa rfl<|wn<|ws<|wm rfl<|wo (op_addStr rfl rfl (by simp only [num8_len,List.length_cons,List.length_nil]<;>omega)<|wm rfl<|wo (op_nilCheck rfl<|wo (op_fieldAddr rfl Fa.F95_2<|wo (op_load rfl (H1.cellO (i:=0) rfl rfl) Tryz.underlying9 rfl<|wm rfl<|wm rfl<|wo (op_addStr rfl rfl (by simp only [num8_len]<;>omega)<|wo (cq H1 Fa.C112 rfl (msum_ok key ((num8 v (UInt32.ofNat t.length))++t) _ (by omega) (by simp only [List.length_append,num8_len]<;>omega)) fun w2 H2=>(wo (op_addStr rfl rfl (by simp only [List.length_append,num8_len,mac_length,List.length_cons,List.length_nil]<;>omega)<|wo (cq H2 Fa.C111 rfl (slfill_ok (([65,83,76,49]++(num8 v (UInt32.ofNat t.length)))++(mac key ((num8 v (UInt32.ofNat t.length))++t))) _ (by simp only [List.length_append,num8_len,mac_length,List.length_cons,List.length_nil]<;>omega)) fun w3 H3=>(wa rfl<|wn<|WC.ret<|WQ.out (.tmp rfl .nil) (⟨rfl,H3.fr⟩)))))))))))))))
theorem pick_ok (s:Nat) (xv:Value) (id:UInt32) (key:List UInt8) (each:Nat) (left:Int) (q:Nat) (hd all:List UInt8) (v z:UInt32) (w:World) (hS:cellsAt w s [xv,(vU32 id),(str key),(vN each),(vI left)]) (hk:key.length<2^40) (ha:all.length<2^32) :
  Calls Tryz.prog 108 #[(.agg #[(ptr s 0),(vN q)]),(vU32 v),(vU32 z),(str hd),(str all)] w (fun e w'=>e=.returned (.tuple #[vU32 (pickS key hd all v z).v,str (pickS key hd all v z).t,.bool (pickS key hd all v z).is])∧Fr [] w w'):=by
 refine enter Tryz.func108 rfl rfl ?_
 have H0:=((Own.start w []).oldB hS)
 refine ws<|wo (op_box H0 rfl rfl (fun b1 w1 H1=>(wa rfl<|wa rfl<|wa rfl<|wn<|WC.seq<|WC.seq (wG (z>(UInt32.ofNat all.length)) (fun hb2 hc2=>?_) (fun hb2 hc2=>?_)))))
 ·
  refine WC.draw 16 Fa.M H1 (mh rfl<|mh rfl<|oh (fun w1 H1=>op_lenStr Tryz.underlying9 rfl zr)<|oh (fun w1 H1=>op_convNU32 (hs:=Tryz.underlying3) (hd:=Tryz.underlying22) rfl zr)<|oh (fun w1 H1=>op_gtrU32 rfl rfl zr)<|mh rfl<|nh hb2<|nh hb2<|nh hb2<|nh hb2<|nh hb2<|nh hb2<|nh hb2<|nh hb2<|nh hb2<|oh (fun w1 H1=>op_pickT rfl hb2 rfl zr)  HW.nil) (by kernel_rfl) ?_
  intro β3 w3 H3
  exact wn<|WC.yes rfl rfl<|ws<|wa rfl<|wa rfl<|wa rfl<|wn<|WC.ret<|WQ.thenRet<|WQ.out (.tmp rfl (.tmp rfl (.tmp rfl .nil))) (⟨by rw [pickS,if_pos (.inl (dT hb2))]; rfl,H3.fr⟩)
 have hzl:=sl_le (dF hb2) ha
 refine WC.draw 16 Fa.M H1 (mh rfl<|mh rfl<|oh (fun w1 H1=>op_lenStr Tryz.underlying9 rfl zr)<|oh (fun w1 H1=>op_convNU32 (hs:=Tryz.underlying3) (hd:=Tryz.underlying22) rfl zr)<|oh (fun w1 H1=>op_gtrU32 rfl rfl zr)<|mh rfl<|yh hb2 (fun w1 H1=>op_move rfl zr)<|yh hb2 (fun w1 H1=>op_fieldAddr rfl Fa.F97_0 zr)<|yh hb2 (fun w1 H1=>op_load rfl (H1.cell (i:=1) rfl rfl) Tryz.underlying24 rfl zr)<|yh hb2 (fun w1 H1=>op_move rfl zr)<|yh hb2 (fun w1 H1=>op_move rfl zr)<|yh hb2 (fun w1 H1=>op_move rfl zr)<|yh hb2 (fun w1 H1=>op_sliceStrHi Tryz.underlying9 rfl rfl (by omega) zr)<|yh hb2 (fun w1 H1=>op_callF Fa.C49 rfl ((head_ok s xv id key each left v (all.take z.toNat) _ (H1.cellsAtO (i:=0) rfl) hk (by rw [List.length_take]; omega)).mono (fun e w2 hq=>⟨_,hq.1,rfl,hq.2⟩)))<|yh hb2 (fun w1 H1=>op_neqStr rfl rfl zr)<|oh (fun w1 H1=>op_pickF rfl hb2 rfl zr)  HW.nil) (by kernel_rfl) ?_
 intro β5 w5 H5
 refine wn (wE (hd≠(hdrS key v (all.take z.toNat))) (fun hb6 hc6=>?_) (fun hb6 hc6=>?_))
 ·
  exact ws<|wa rfl<|wa rfl<|wa rfl<|wn<|WC.ret<|WQ.thenRet<|WQ.out (.tmp rfl (.tmp rfl (.tmp rfl .nil))) (⟨by rw [pickS,if_pos (.inr (dT hb6))]; rfl,H5.fr⟩)
 refine WC.skip<|WQ.next<|WC.seq<|WC.draw 7 Fa.M H5 (mh rfl<|mh rfl<|mh rfl<|oh (fun w1 H1=>op_sliceStrHi Tryz.underlying9 rfl rfl (by omega) zr)<|ah rfl<|ah rfl<|ah rfl  HW.nil) (by kernel_rfl) ?_
 intro β7 w7 H7
 exact wn<|WC.ret<|WQ.out (.tmp rfl (.tmp rfl (.tmp rfl .nil))) (⟨by rw [pickS,if_neg (fun h=>h.elim (dF hb2) (dF hb6))]; rfl,H7.fr⟩)
theorem read_ok (s:Nat) (id:UInt32) (key:List UInt8) (each:Nat) (left:Int) (x:Nat) (k:Nat) (bv ev xv cv nv:Value) (pg:UInt32) (m n:Nat) (es:List Value) (B:List (List UInt8)) (q:Nat) (w:World) (hS:cellsAt w s [(ptr x 0),(vU32 id),(str key),(vN each),(vI left)]) (hX:cellsAt w x [(ptr k 0)]) (hK:cellsAt w k [(vU32 pg),xv,cv,nv,bv]) (hV:Arr w bv 1 m es) (hE:Arr w ev 1 n (List.map str B)) (hid:id.toNat<m) (hev:es[id.toNat]?=some ev) (hn:B.length=n) (hB: ∀b∈B,b.length=64) (hc:2+each+each≤n) (hm:n<2^20) (hk:key.length<2^40) (hq:q<2) :
  Calls Tryz.prog 47 #[(.agg #[(ptr s 0),(vN q)])] w (fun e w'=>e=.returned (.tuple #[vU32 (slotN B each key q).v,str (slotN B each key q).t,.bool (slotN B each key q).is])∧Fr [] w w'):=by
 refine enter Tryz.func47 rfl rfl ?_
 have H0:=((((((Own.start w []).oldB hS).oldB hX).oldB hK).oldA hV).oldA hE)
 have hhl:(B.getD q []).length=64:=slall_get hB (by omega)
 have hqe:q * each≤each:=by have:q * each≤1 * each:=Nat.mul_le_mul_right _ (by omega); omega
 refine ws<|wo (op_box H0 rfl rfl (fun b1 w1 H1=>(wa rfl<|wa rfl<|wa rfl<|wn<|WC.seq<|WC.draw 19 Fa.M H1 (oh (fun w1 H1=>op_fieldAddr rfl Fa.F97_0 zr)<|oh (fun w1 H1=>op_load rfl (H1.cell (i:=5) rfl rfl) Tryz.underlying24 rfl zr)<|oh (fun w1 H1=>op_nilCheck rfl zr)<|oh (fun w1 H1=>op_fieldAddr rfl Fa.F95_0 zr)<|oh (fun w1 H1=>op_load rfl (H1.cellO (i:=0) rfl rfl) Tryz.underlying47 rfl zr)<|oh (fun w1 H1=>op_fieldAddr rfl Fa.F97_0 zr)<|oh (fun w1 H1=>op_load rfl (H1.cell (i:=5) rfl rfl) Tryz.underlying24 rfl zr)<|oh (fun w1 H1=>op_nilCheck rfl zr)<|oh (fun w1 H1=>op_fieldAddr rfl Fa.F95_1 zr)<|oh (fun w1 H1=>op_load rfl (H1.cellO (i:=0) rfl rfl) Tryz.underlying22 rfl zr)<|oh (fun w1 H1=>op_fieldAddr rfl Fa.F97_1 zr)<|oh (fun w1 H1=>op_load rfl (H1.cell (i:=5) rfl rfl) Tryz.underlying3 rfl zr)<|oh (fun w1 H1=>op_convNU32 (hs:=Tryz.underlying3) (hd:=Tryz.underlying22) rfl zr)<|oh (fun w1 H1=>op_callF Fa.C29 rfl ((xblk_in x k bv ev xv cv nv pg m n es B id q _ (H1.cellsAtO (i:=1) rfl) (H1.cellsAtO (i:=2) rfl) (H1.arrO (i:=3) rfl) (H1.arrO (i:=4) rfl) hid hev (by omega) (by omega)).mono (fun e w2 hq=>⟨_,hq.1,rfl,hq.2⟩)))<|mh rfl<|oh (fun w1 H1=>op_extract rfl rfl zr)<|oh (fun w1 H1=>op_extract rfl rfl zr)<|ah rfl<|ah rfl  HW.nil) (by kernel_rfl) ?_)))
 intro β3 w3 H3
 refine wn<|WC.seq<|ws<|wm rfl<|wo (op_neqN (b:=0) rfl rfl<|wm rfl<|WL.yes rfl rfl rfl (by decide) rfl (op_move rfl<|WL.yes rfl rfl rfl (by decide) rfl (op_lenStr Tryz.underlying9 rfl<|WL.yes rfl rfl rfl (by decide) rfl (op_neqN (b:=64) rfl rfl<|wo (op_pickF rfl (by decide) rfl<|wn<|WC.no rfl (decide_eq_false (fun h=>h hhl))<|WC.skip<|WQ.next<|ws<|wo (op_alloc H3 Fa.I175 (fun b4 w4 H4=>(wn<|WC.seq<|ws<|wo (op_fieldAddr rfl Fa.F97_0<|wo (op_load rfl (H4.cell (i:=5) rfl rfl) Tryz.underlying24 rfl<|wo (op_nilCheck rfl<|wo (op_fieldAddr rfl Fa.F95_3<|wo (op_load rfl (H4.cellO (i:=0) rfl rfl) Tryz.underlying3 rfl<|wm rfl<|wn<|WC.block ?_)))))))))))))
 have H5:=H4.nilRow 5 1
 refine WC.loop (α:=Nat × Value × Value) (fun (u,A0,v)=>[(0,(.agg #[(ptr s 0),(vN q)])),(1,(ptr b1 0)),(5,(str (B.getD q []))),(7,(ptr b4 0)),(41,(vN each)),(42,(vN u))]) (fun (u,A0,v) w'=>(u≤each∧(A0=.pointer none∨A0=ptr b4 0)∧(v=.slice none 0 0∨u≠0))∧Owl.Own [] w w' [Ent.bo s [(ptr x 0),(vU32 id),(str key),(vN each),(vI left)],Ent.bo x [(ptr k 0)],Ent.bo k [(vU32 pg),xv,cv,nv,bv],Ent.ar bv 1 m es,Ent.ar ev 1 n (List.map str B),.blk b1 [(ptr s 0),(vN q)] 97,.blk b4 [A0,v] 175,.row v 5 1 (catB B (2+q * each) u).length (List.map vU8 (catB B (2+q * each) u))]) (fun (u,A0,v)=>each-u) (0,(.pointer none),(.slice none 0 0)) ⟨⟨Nat.zero_le _,.inl rfl,.inl rfl⟩,H5⟩ ⟨rfl,rfl,rfl,rfl,rfl,rfl,trivial⟩ ?_
 rintro ⟨u,A0,v⟩ w6 ⟨⟨hk1,hA0,hv0⟩,H6⟩
 show WC _ _ _ _ _ [(0,(.agg #[(ptr s 0),(vN q)])),(1,(ptr b1 0)),(5,(str (B.getD q []))),(7,(ptr b4 0)),(41,(vN each)),(42,(vN u))] _
 have hcl:(catB B (2+q * each) u).length=64 * u:=catB_len (fun j h1 h2=>slall_get hB (by omega))
 have hgl:u<each→(B.getD (2+q * each+u) []).length=64:=fun h=>slall_get hB (by omega)
 refine ws<|wo (op_lssN rfl rfl<|wn<|WC.seq (wE (u<each) (fun hb7 hc7=>?_) (fun hb7 hc7=>?_)))
 ·
  refine WC.skip<|WQ.next<|WC.seq<|WC.block<|ws<|wm rfl<|wa rfl<|wn<|WC.seq<|WC.draw 28 Fa.M H6 (oh (fun w1 H1=>op_fieldAddr rfl Fa.F97_0 zr)<|oh (fun w1 H1=>op_load rfl (H1.cell (i:=5) rfl rfl) Tryz.underlying24 rfl zr)<|oh (fun w1 H1=>op_nilCheck rfl zr)<|oh (fun w1 H1=>op_fieldAddr rfl Fa.F95_0 zr)<|oh (fun w1 H1=>op_load rfl (H1.cellO (i:=0) rfl rfl) Tryz.underlying47 rfl zr)<|oh (fun w1 H1=>op_fieldAddr rfl Fa.F97_0 zr)<|oh (fun w1 H1=>op_load rfl (H1.cell (i:=5) rfl rfl) Tryz.underlying24 rfl zr)<|oh (fun w1 H1=>op_nilCheck rfl zr)<|oh (fun w1 H1=>op_fieldAddr rfl Fa.F95_1 zr)<|oh (fun w1 H1=>op_load rfl (H1.cellO (i:=0) rfl rfl) Tryz.underlying22 rfl zr)<|oh (fun w1 H1=>op_fieldAddr rfl Fa.F97_1 zr)<|oh (fun w1 H1=>op_load rfl (H1.cell (i:=5) rfl rfl) Tryz.underlying3 rfl zr)<|oh (fun w1 H1=>op_fieldAddr rfl Fa.F97_0 zr)<|oh (fun w1 H1=>op_load rfl (H1.cell (i:=5) rfl rfl) Tryz.underlying24 rfl zr)<|oh (fun w1 H1=>op_nilCheck rfl zr)<|oh (fun w1 H1=>op_fieldAddr rfl Fa.F95_3 zr)<|oh (fun w1 H1=>op_load rfl (H1.cellO (i:=0) rfl rfl) Tryz.underlying3 rfl zr)<|oh (fun w1 H1=>op_mulN rfl rfl (by omega) zr)<|oh (fun w1 H1=>op_addN (a:=2) rfl rfl (by omega) zr)<|mh rfl<|oh (fun w1 H1=>op_addN rfl rfl (by omega) zr)<|oh (fun w1 H1=>op_convNU32 (hs:=Tryz.underlying3) (hd:=Tryz.underlying22) rfl zr)<|oh (fun w1 H1=>op_callF Fa.C29 rfl ((xblk_in x k bv ev xv cv nv pg m n es B id ((2+(q * each))+u) _ (H1.cellsAtO (i:=1) rfl) (H1.cellsAtO (i:=2) rfl) (H1.arrO (i:=3) rfl) (H1.arrO (i:=4) rfl) hid hev (by omega) (by omega)).mono (fun e w2 hq=>⟨_,hq.1,rfl,hq.2⟩)))<|mh rfl<|oh (fun w1 H1=>op_extract rfl rfl zr)<|oh (fun w1 H1=>op_extract rfl rfl zr)<|ah rfl<|ah rfl  HW.nil) (by kernel_rfl) ?_
  intro β9 w9 H9
  refine wn<|WC.region<|wm rfl<|wo (op_callF Fa.C106 rfl ((ws_ok b4 A0 v (catB B (2+q * each) u).length (catB B (2+q * each) u) (B.getD ((2+(q * each))+u) []) 175 _ _ (H9.part [6,7] rfl rfl) hA0 Fa.CO175 Fa.LI175_175 (by have:=hgl (by omega); omega)).mono (fun e w10 hq=>?_)))
  obtain ⟨v10,rfl,hq10⟩:=hq
  refine ⟨_,rfl,?_⟩
  have H10:=H9.splice [6,7] [.blk b4 [(ptr b4 0),v10] 175,.row v10 5 1 ((catB B (2+q * each) u).length+(B.getD ((2+(q * each))+u) []).length) (List.map vU8 ((catB B (2+q * each) u)++(B.getD ((2+(q * each))+u) [])))] [] rfl rfl hq10 (Fits.solid True.intro (Fits.solid True.intro Fits.nil))
  exact WL.nil<|WQ.inNormal<|WQ.next<|WC.region<|wo (op_addN (b:=1) rfl rfl (by omega)<|wm rfl<|WL.nil<|WQ.round (u+1,(ptr b4 0),v10) ⟨⟨by omega,.inr rfl,.inr (by omega)⟩,(Own.rowEqN (i:=7) (f:=vU8) H10 rfl rfl (List.length_append).symm)⟩ ⟨rfl,rfl,rfl,rfl,rfl,rfl,trivial⟩ (by show each-(u+1)<each-u; omega))
 have hke:u=each:=by omega
 refine WC.exit<|WQ.thenExit<|WQ.thenExit<|WQ.inHere<|WQ.next<|ws<|wm rfl<|wo (op_sliceStr (a:=4) (b:=8) Tryz.underlying9 rfl rfl rfl (by omega) (by omega)<|wo (cq H6 Fa.C107 rfl (get_ok (((B.getD q []).drop 4).take (8-4)) _) fun w11 H11=>(wm rfl<|we rfl rfl<|we rfl rfl<|wa rfl<|wn<|ws<|wm rfl<|wo (op_sliceStr (a:=8) (b:=12) Tryz.underlying9 rfl rfl rfl (by omega) (by omega)<|wo (cq H11 Fa.C107 rfl (get_ok (((B.getD q []).drop 8).take (12-8)) _) fun w12 H12=>(wm rfl<|we rfl rfl<|we rfl rfl<|wa rfl<|wa rfl<|wn<|WC.seq<|WC.held 12 rfl Fa.M H12 (fun w'=> ∃L',Owl.Own [] w w' ([Ent.bo s [(ptr x 0),(vU32 id),(str key),(vN each),(vI left)],Ent.bo x [(ptr k 0)],Ent.bo k [(vU32 pg),xv,cv,nv,bv],Ent.ar bv 1 m es,Ent.ar ev 1 n (List.map str B),.blk b1 [(ptr s 0),(vN q)] 97]++L')) ?_))))))
 intro w13 H13
 refine xt 0 rfl (.agg #[(ptr s 0),(vN q)]) H13 (fun _ _ HX=>op_loadS (vs:=[_,_]) rfl (HX.cells (i:=5) rfl rfl) Tryz.underlying97 rfl Fa.I97 rfl ⟨rfl,rfl⟩)<|xt 1 rfl (vU32 (getV (((B.getD q []).drop 4).take (8-4)))) H13 (fun _ _ HX=>op_move rfl ⟨rfl,rfl⟩)<|xt 2 rfl (vU32 (getV (((B.getD q []).drop 8).take (12-8)))) H13 (fun _ _ HX=>op_move rfl ⟨rfl,rfl⟩)<|xt 3 rfl (str (B.getD q [])) H13 (fun _ _ HX=>op_move rfl ⟨rfl,rfl⟩)<|WH.named (fun W hW=>?_)
 let e13:List (Nat × Value)→List (Nat × Value):=fun r=>(0,(.agg #[(ptr s 0),(vN q)]))::(1,(ptr b1 0))::(5,(str (B.getD q [])))::(7,(ptr b4 0))::(11,(vU32 (getV (((B.getD q []).drop 8).take (12-8)))))::(12,(vN (getE (((B.getD q []).drop 8).take (12-8)))))::(41,(vN each))::(42,(vN u))::(43,(.bool (decide (u<each))))::(74,(.tuple #[(vU32 (getV (((B.getD q []).drop 4).take (8-4)))),(vN (getE (((B.getD q []).drop 4).take (8-4))))]))::(75,(str (B.getD q [])))::(76,(str (((B.getD q []).drop 4).take (8-4))))::(77,(.tuple #[(vU32 (getV (((B.getD q []).drop 4).take (8-4)))),(vN (getE (((B.getD q []).drop 4).take (8-4))))]))::(78,(vU32 (getV (((B.getD q []).drop 4).take (8-4)))))::(79,(vN (getE (((B.getD q []).drop 4).take (8-4)))))::(80,(.tuple #[(vU32 (getV (((B.getD q []).drop 8).take (12-8)))),(vN (getE (((B.getD q []).drop 8).take (12-8))))]))::(81,(str (B.getD q [])))::(82,(str (((B.getD q []).drop 8).take (12-8))))::(83,(.tuple #[(vU32 (getV (((B.getD q []).drop 8).take (12-8)))),(vN (getE (((B.getD q []).drop 8).take (12-8))))]))::(84,(vU32 (getV (((B.getD q []).drop 8).take (12-8)))))::(85,(vN (getE (((B.getD q []).drop 8).take (12-8)))))::r
 let a13_0:Ent:=Ent.bo s [(ptr x 0),(vU32 id),(str key),(vN each),(vI left)]
 let a13_1:Ent:=Ent.bo k [(vU32 pg),xv,cv,nv,bv]
 let a13_2:Ent:=Ent.ar ev 1 n (List.map str B)
 let a13_3:Ent:=.blk b1 [(ptr s 0),(vN q)] 97
 have st13_2: ∀wS,Owl.Own [] w wS [a13_0,Ent.bo x [(ptr k 0)],a13_1,Ent.ar bv 1 m es,a13_2,a13_3]→W 0 (bz 12 4095) (e13 [(2,(vU32 (pickS key (B.getD q []) (catB B (2+q * each) u) (getV (((B.getD q []).drop 4).take (8-4))) (getV (((B.getD q []).drop 8).take (12-8)))).v)),(3,(str (pickS key (B.getD q []) (catB B (2+q * each) u) (getV (((B.getD q []).drop 4).take (8-4))) (getV (((B.getD q []).drop 8).take (12-8)))).t)),(4,(.bool (pickS key (B.getD q []) (catB B (2+q * each) u) (getV (((B.getD q []).drop 4).take (8-4))) (getV (((B.getD q []).drop 8).take (12-8)))).is))]) wS:=fun wS HS=>by
  rw [hW]
  exact WH.done (by kernel_rfl)<|WQ.next<|WC.ret<|WQ.out (.tmp rfl (.tmp rfl (.tmp rfl .nil))) (⟨by rw [hke]; rfl,HS.fr⟩)
 have st13_1: ∀wS,Owl.Own [] w wS [a13_0,Ent.bo x [(ptr k 0)],a13_1,Ent.ar bv 1 m es,a13_2,a13_3]→W 7 (bz 12 31) (e13 [(2,(vU32 (getV (((B.getD q []).drop 4).take (8-4))))),(86,(.agg #[(ptr s 0),(vN q)])),(87,(vU32 (getV (((B.getD q []).drop 4).take (8-4))))),(88,(vU32 (getV (((B.getD q []).drop 8).take (12-8))))),(89,(str (B.getD q []))),(90,(str (catB B (2+q * each) u)))]) wS:=fun wS HS=>by
  rw [hW]
  refine wh1 5<|kH 5 rfl (cq HS Fa.C108 rfl (pick_ok s (ptr x 0) id key each left q (B.getD q []) (catB B (2+q * each) u) (getV (((B.getD q []).drop 4).take (8-4))) (getV (((B.getD q []).drop 8).take (12-8))) _ (HS.cellsAtO (i:=0) rfl) hk (by omega)) fun w24101 H24101=>(⟨⟨_,H24101⟩,?_⟩))
  exact xt 6 rfl (vU32 (pickS key (B.getD q []) (catB B (2+q * each) u) (getV (((B.getD q []).drop 4).take (8-4))) (getV (((B.getD q []).drop 8).take (12-8)))).v) H24101 (fun _ _ HX=>op_extract rfl rfl ⟨rfl,rfl⟩)<|xt 7 rfl (str (pickS key (B.getD q []) (catB B (2+q * each) u) (getV (((B.getD q []).drop 4).take (8-4))) (getV (((B.getD q []).drop 8).take (12-8)))).t) H24101 (fun _ _ HX=>op_extract rfl rfl ⟨rfl,rfl⟩)<|xt 8 rfl (.bool (pickS key (B.getD q []) (catB B (2+q * each) u) (getV (((B.getD q []).drop 4).take (8-4))) (getV (((B.getD q []).drop 8).take (12-8)))).is) H24101 (fun _ _ HX=>op_extract rfl rfl ⟨rfl,rfl⟩)<|xt 9 rfl (vU32 (pickS key (B.getD q []) (catB B (2+q * each) u) (getV (((B.getD q []).drop 4).take (8-4))) (getV (((B.getD q []).drop 8).take (12-8)))).v) H24101 (fun _ _ HX=>op_assign rfl ⟨rfl,rfl⟩)<|xt 10 rfl (str (pickS key (B.getD q []) (catB B (2+q * each) u) (getV (((B.getD q []).drop 4).take (8-4))) (getV (((B.getD q []).drop 8).take (12-8)))).t) H24101 (fun _ _ HX=>op_assign rfl ⟨rfl,rfl⟩)<|xt 11 rfl (.bool (pickS key (B.getD q []) (catB B (2+q * each) u) (getV (((B.getD q []).drop 4).take (8-4))) (getV (((B.getD q []).drop 8).take (12-8)))).is) H24101 (fun _ _ HX=>op_assign rfl ⟨rfl,rfl⟩)<|WH.cw hW (st13_2 w24101 H24101)
 have st13_0: ∀wS,Owl.Own [] w wS [a13_0,Ent.bo x [(ptr k 0)],a13_1,Ent.ar bv 1 m es,a13_2,a13_3,.blk b4 [A0,v] 175,.row v 5 1 (catB B (2+q * each) u).length (List.map vU8 (catB B (2+q * each) u))]→W 8 (bz 12 15) (e13 [(2,(vU32 (getV (((B.getD q []).drop 4).take (8-4))))),(86,(.agg #[(ptr s 0),(vN q)])),(87,(vU32 (getV (((B.getD q []).drop 4).take (8-4))))),(88,(vU32 (getV (((B.getD q []).drop 8).take (12-8))))),(89,(str (B.getD q [])))]) wS:=fun wS HS=>by
  rw [hW]
  refine wh1 4<|kH 4 rfl (op_callF Fa.C109 rfl ((bstr_ok b4 A0 v (catB B (2+q * each) u).length (catB B (2+q * each) u) 175 _ _ (HS.part [6,7] rfl rfl) (hv0.imp (fun h=>h) (fun h=>by omega))).mono (fun e w24081 hq=>?_)))
  obtain ⟨rfl,hq24081⟩:=hq
  refine ⟨_,rfl,?_⟩
  have H24081:=HS.rest (I:=[6,7]) (J:=[0,1,2,3,4,5]) rfl rfl rfl rfl hq24081
  refine ⟨⟨_,H24081⟩,?_⟩
  exact WH.cw hW (st13_1 w24081 H24081)
 have hq:=st13_0 w13 H13
 rw [hW] at hq ⊢
 exact WH.cv hq
theorem slot_ok (s:Nat) (id:UInt32) (key:List UInt8) (each:Nat) (left:Int) (x:Nat) (k:Nat) (bv ev xv cv nv:Value) (pg:UInt32) (m n:Nat) (es:List Value) (B:List (List UInt8)) (q:Nat) (w:World) (hS:cellsAt w s [(ptr x 0),(vU32 id),(str key),(vN each),(vI left)]) (hX:cellsAt w x [(ptr k 0)]) (hK:cellsAt w k [(vU32 pg),xv,cv,nv,bv]) (hV:Arr w bv 1 m es) (hE:Arr w ev 1 n (List.map str B)) (hid:id.toNat<m) (hev:es[id.toNat]?=some ev) (hn:B.length=n) (hB: ∀b∈B,b.length=64) (hc:2+each+each≤n) (hm:n<2^20) (hk:key.length<2^40) (hq:q<2) :
  Calls Tryz.prog 12 #[(ptr s 0),(vN q)] w (fun e w'=>e=.returned (.tuple #[vU32 (slotN B each key q).v,str (slotN B each key q).t,.bool (slotN B each key q).is])∧Fr [] w w'):=by
 refine enter Tryz.func12 rfl rfl ?_
 have H0:=((((((Own.start w []).oldB hS).oldB hX).oldB hK).oldA hV).oldA hE)
 exact ws<|wa rfl<|wa rfl<|wa rfl<|wn<|WC.seq<|ws<|wm rfl<|wo (op_eqlPN Fa.PT24 rfl rfl<|wm rfl<|wY rfl (op_move rfl<|wY rfl (op_lssN (b:=0) rfl rfl<|wo (op_pickF rfl rfl rfl<|wm rfl<|WL.yes rfl rfl rfl (decide_eq_false (by omega)) rfl (op_move rfl<|WL.yes rfl rfl rfl (decide_eq_false (by omega)) rfl (op_gtrN (b:=1) rfl rfl<|wo (op_pickF rfl (decide_eq_false (by omega)) rfl<|wn<|WC.no rfl (decide_eq_false (by omega))<|WC.skip<|WQ.next<|ws<|wm rfl<|wm rfl<|wo (op_build (cs:=[_,_]) Fa.I97 Fa.PL97 rfl rfl<|wo (cq H0 Fa.C47 rfl (read_ok s id key each left x k bv ev xv cv nv pg m n es B q _ (H0.cellsAtO (i:=0) rfl) (H0.cellsAtO (i:=1) rfl) (H0.cellsAtO (i:=2) rfl) (H0.arrO (i:=3) rfl) (H0.arrO (i:=4) rfl) hid hev hn hB hc hm hk (by omega)) fun w1 H1=>(we rfl rfl<|we rfl rfl<|we rfl rfl<|wa rfl<|wa rfl<|wa rfl<|wn<|WC.ret<|WQ.out (.tmp rfl (.tmp rfl (.tmp rfl .nil))) (⟨rfl,H1.fr⟩)))))))))))
theorem cur_ok (s:Nat) (id:UInt32) (key:List UInt8) (each:Nat) (left:Int) (x:Nat) (k:Nat) (bv ev xv cv nv:Value) (pg:UInt32) (m n:Nat) (es:List Value) (B:List (List UInt8)) (w:World) (hS:cellsAt w s [(ptr x 0),(vU32 id),(str key),(vN each),(vI left)]) (hX:cellsAt w x [(ptr k 0)]) (hK:cellsAt w k [(vU32 pg),xv,cv,nv,bv]) (hV:Arr w bv 1 m es) (hE:Arr w ev 1 n (List.map str B)) (hid:id.toNat<m) (hev:es[id.toNat]?=some ev) (hn:B.length=n) (hB: ∀b∈B,b.length=64) (hc:2+each+each≤n) (hm:n<2^20) (hk:key.length<2^40) :
  Calls Tryz.prog 48 #[(ptr s 0)] w (fun e w'=>e=.returned (.tuple #[.agg #[ptr s 0,vN (curN (slotN B each key 0) (slotN B each key 1))],.bool (curIs (slotN B each key 0) (slotN B each key 1))])∧Fr [] w w'):=by
 refine enter Tryz.func48 rfl rfl ?_
 have H0:=((((((Own.start w []).oldB hS).oldB hX).oldB hK).oldA hV).oldA hE)
 refine ws<|wo (op_alloc H0 Fa.I97 (fun b1 w1 H1=>(wa rfl<|wn<|ws<|wm rfl<|wo (cq H1 Fa.C12 rfl (slot_ok s id key each left x k bv ev xv cv nv pg m n es B 0 _ (H1.cellsAtO (i:=0) rfl) (H1.cellsAtO (i:=1) rfl) (H1.cellsAtO (i:=2) rfl) (H1.arrO (i:=3) rfl) (H1.arrO (i:=4) rfl) hid hev hn hB hc hm hk (by omega)) fun w2 H2=>(wm rfl<|we rfl rfl<|we rfl rfl<|we rfl rfl<|wa rfl<|wa rfl<|wa rfl<|wn<|ws<|wm rfl<|wo (cq H2 Fa.C12 rfl (slot_ok s id key each left x k bv ev xv cv nv pg m n es B 1 _ (H2.cellsAtO (i:=0) rfl) (H2.cellsAtO (i:=1) rfl) (H2.cellsAtO (i:=2) rfl) (H2.arrO (i:=3) rfl) (H2.arrO (i:=4) rfl) hid hev hn hB hc hm hk (by omega)) fun w3 H3=>(wm rfl<|we rfl rfl<|we rfl rfl<|we rfl rfl<|wa rfl<|wa rfl<|wa rfl<|wn<|WC.seq<|ws<|wm rfl<|wm rfl (wV 23 (slotN B each key 1).is (fun hb4=>?_) (fun hb4=>?_)))))))))
 ·
  refine wY hb4 (op_move rfl<|wY hb4 (op_not rfl<|wY hb4 (op_move rfl (wV 26 (!(slotN B each key 0).is) (fun hb5=>?_) (fun hb5=>?_)))))
  ·
   have hn5:=(Bool.not_eq_true' _).mp hb5
   exact wN hb5<|wN hb5<|wN hb5<|wY hb4 (op_pickT rfl hb5 rfl<|wo (op_pickT rfl hb4 rfl<|wn<|WC.yes rfl rfl<|ws<|wm rfl<|wo (op_build (cs:=[_,_]) Fa.I97 Fa.PL97 rfl rfl<|wo (op_storeBW (i:=5) H3 rfl rfl rfl rfl rfl Fa.I97 (fun w6 H6=>(wa rfl<|wn<|WC.ret<|WQ.thenRet<|WQ.out (.cell rfl (run_loadVarS (vs:=[_,_]) (H6.cells (i:=5) rfl rfl) Tryz.underlying97 rfl Fa.I97 rfl) (.tmp rfl .nil)) (⟨by rw [(cur1 hb4 (.inl hn5)).1,(cur1 hb4 (.inl hn5)).2]; rfl,H6.fr⟩)))))))
  have hn5:=(Bool.not_eq_false' _).mp hb5
  refine wY hb5 (op_move rfl<|wY hb5 (op_move rfl<|wY hb5 (op_gtrU32 rfl rfl<|wY hb4 (op_pickF rfl hb5 rfl<|wo (op_pickT rfl hb4 rfl<|wn (wE ((slotN B each key 1).v>(slotN B each key 0).v) (fun hb7 hc7=>?_) (fun hb7 hc7=>?_)))))))
  ·
   exact ws<|wm rfl<|wo (op_build (cs:=[_,_]) Fa.I97 Fa.PL97 rfl rfl<|wo (op_storeBW (i:=5) H3 rfl rfl rfl rfl rfl Fa.I97 (fun w8 H8=>(wa rfl<|wn<|WC.ret<|WQ.thenRet<|WQ.out (.cell rfl (run_loadVarS (vs:=[_,_]) (H8.cells (i:=5) rfl rfl) Tryz.underlying97 rfl Fa.I97 rfl) (.tmp rfl .nil)) (⟨by rw [(cur1 hb4 (.inr (dT hb7))).1,(cur1 hb4 (.inr (dT hb7))).2]; rfl,H8.fr⟩)))))
  exact WC.skip<|WQ.next<|ws<|wm rfl<|wo (op_build (cs:=[_,_]) Fa.I97 Fa.PL97 rfl rfl<|wm rfl<|wo (op_storeBW (i:=5) H3 rfl rfl rfl rfl rfl Fa.I97 (fun w9 H9=>(wa rfl<|wn<|WC.ret<|WQ.out (.cell rfl (run_loadVarS (vs:=[_,_]) (H9.cells (i:=5) rfl rfl) Tryz.underlying97 rfl Fa.I97 rfl) (.tmp rfl .nil)) (⟨by rw [(cur0 (.inr ⟨hn5,dF hb7⟩)).1,(cur0 (.inr ⟨hn5,dF hb7⟩)).2]; rfl,H9.fr⟩)))))
 exact wN hb4<|wN hb4<|wN hb4<|WL.non rfl rfl rfl rfl<|WL.non rfl rfl rfl rfl<|WL.non rfl rfl rfl rfl<|wN hb4<|wo (op_pickF rfl hb4 rfl<|wn<|WC.no rfl rfl<|WC.skip<|WQ.next<|ws<|wm rfl<|wo (op_build (cs:=[_,_]) Fa.I97 Fa.PL97 rfl rfl<|wm rfl<|wo (op_storeBW (i:=5) H3 rfl rfl rfl rfl rfl Fa.I97 (fun w10 H10=>(wa rfl<|wn<|WC.ret<|WQ.out (.cell rfl (run_loadVarS (vs:=[_,_]) (H10.cells (i:=5) rfl rfl) Tryz.underlying97 rfl Fa.I97 rfl) (.tmp rfl .nil)) (⟨by rw [(cur0 (.inl hb4)).1,(cur0 (.inl hb4)).2]; rfl,H10.fr⟩))))))
theorem current_ok (s:Nat) (id:UInt32) (key:List UInt8) (each:Nat) (left:Int) (x:Nat) (k:Nat) (bv ev xv cv nv:Value) (pg:UInt32) (m n:Nat) (es:List Value) (B:List (List UInt8)) (w:World) (hS:cellsAt w s [(ptr x 0),(vU32 id),(str key),(vN each),(vI left)]) (hX:cellsAt w x [(ptr k 0)]) (hK:cellsAt w k [(vU32 pg),xv,cv,nv,bv]) (hV:Arr w bv 1 m es) (hE:Arr w ev 1 n (List.map str B)) (hid:id.toNat<m) (hev:es[id.toNat]?=some ev) (hn:B.length=n) (hB: ∀b∈B,b.length=64) (hc:2+each+each≤n) (hm:n<2^20) (hk:key.length<2^40) :
  Calls Tryz.prog 13 #[(ptr s 0)] w (fun e w'=>e=.returned (.tuple #[vU32 (curS B each key).v,str (curS B each key).t,.bool (curS B each key).is])∧Fr [] w w'):=by
 refine enter Tryz.func13 rfl rfl ?_
 have H0:=((((((Own.start w []).oldB hS).oldB hX).oldB hK).oldA hV).oldA hE)
 refine ws<|wa rfl<|wa rfl<|wa rfl<|wn<|ws<|wm rfl<|wo (cq H0 Fa.C48 rfl (cur_ok s id key each left x k bv ev xv cv nv pg m n es B _ (H0.cellsAtO (i:=0) rfl) (H0.cellsAtO (i:=1) rfl) (H0.cellsAtO (i:=2) rfl) (H0.arrO (i:=3) rfl) (H0.arrO (i:=4) rfl) hid hev hn hB hc hm hk) fun w1 H1=>(wm rfl<|we rfl rfl<|we rfl rfl<|wo (op_alloc H1 Fa.I97 (fun b2 w2 H2=>(wo (op_storeBW (i:=5) H2 rfl rfl rfl rfl rfl Fa.I97 (fun w3 H3=>(wa rfl<|wn<|WC.seq<|ws<|wm rfl<|wo (op_not rfl<|wn (wC (!(curIs (slotN B each key 0) (slotN B each key 1))) (fun hb4=>?_) (fun hb4=>?_)))))))))))
 ·
  have hn4:=(Bool.not_eq_true' _).mp hb4
  exact ws<|wa rfl<|wa rfl<|wa rfl<|wn<|WC.ret<|WQ.thenRet<|WQ.out (.tmp rfl (.tmp rfl (.tmp rfl .nil))) (⟨by rw [curS_no hn4]; rfl,H3.fr⟩)
 have hn4:=(Bool.not_eq_false' _).mp hb4
 exact WC.skip<|WQ.next<|ws<|wo (op_loadS (vs:=[_,_]) rfl (H3.cells (i:=5) rfl rfl) Tryz.underlying97 rfl Fa.I97 rfl<|wo (cq H3 Fa.C47 rfl (read_ok s id key each left x k bv ev xv cv nv pg m n es B (curN (slotN B each key 0) (slotN B each key 1)) _ (H3.cellsAtO (i:=0) rfl) (H3.cellsAtO (i:=1) rfl) (H3.cellsAtO (i:=2) rfl) (H3.arrO (i:=3) rfl) (H3.arrO (i:=4) rfl) hid hev hn hB hc hm hk (curN_lt _ _)) fun w5 H5=>(we rfl rfl<|we rfl rfl<|we rfl rfl<|wa rfl<|wa rfl<|wa rfl<|wn<|WC.ret<|WQ.out (.tmp rfl (.tmp rfl (.tmp rfl .nil))) (⟨rfl,H5.fr⟩))))
theorem write44_ok (s:Nat) (id:UInt32) (key:List UInt8) (each:Nat) (left:Int) (x:Nat) (k:Nat) (bv ev xv cv nv:Value) (pg:UInt32) (m n:Nat) (es:List Value) (B:List (List UInt8)) (p:Nat) (t:List UInt8) (T:List Nat) (w:World) (H:Owl.Own T w w [.blk s [(ptr x 0),(vU32 id),(str key),(vN each),(vI left)] 95,Ent.bo x [(ptr k 0)],Ent.bo k [(vU32 pg),xv,cv,nv,bv],Ent.ar bv 1 m es,.row ev 9 1 n (List.map str B)]) (hid:id.toNat<m) (hev:es[id.toNat]?=some ev) (hp:p<n) (hm:n<2^20) (hL:left<2^63) (ht:t.length≤64) :
  Calls Tryz.prog 51 #[(ptr s 0),(vN p),(str t)] w (fun e w'=>e=.returned (.bool (!decide (left=0)))∧Owl.Own T w w' [.blk s [(ptr x 0),(vU32 id),(str key),(vN each),(vI (wrX (Sst.mk B left) (p,t)).left)] 95,Ent.bo x [(ptr k 0)],Ent.bo k [(vU32 pg),xv,cv,nv,bv],Ent.ar bv 1 m es,.row ev 9 1 n (List.map str (wrX (Sst.mk B left) (p,t)).B)]):=by
 refine enter Tryz.func51 rfl rfl<|ws<|wa rfl<|wn<|WC.seq<|ws<|wm rfl<|wo (op_nilCheck rfl<|wo (op_fieldAddr rfl Fa.F95_4<|wo (op_load rfl (H.cell (i:=0) rfl rfl) Tryz.underlying3 rfl<|wo (op_eqlI (b:=(0:Int)) rfl rfl<|wn (wE (left=(0:Int)) (fun hb1 hc1=>?_) (fun hb1 hc1=>?_))))))
 ·
  refine ws<|wa rfl<|wn<|WC.ret<|WQ.thenRet<|WQ.out (.tmp rfl .nil) ?_
  rw [wrX_0 (dT hb1),hb1]
  exact ⟨rfl,H⟩
 refine WC.skip<|WQ.next<|WC.seq<|ws<|wm rfl<|wo (op_nilCheck rfl<|wo (op_fieldAddr rfl Fa.F95_4<|wo (op_load rfl (H.cell (i:=0) rfl rfl) Tryz.underlying3 rfl<|wo (op_gtrI (b:=(0:Int)) rfl rfl<|wn (wE (left>(0:Int)) (fun hb2 hc2=>?_) (fun hb2 hc2=>?_))))))
 ·
  refine WC.region<|wm rfl<|wo (op_nilCheck rfl<|wo (op_fieldAddr rfl Fa.F95_4<|wo (op_load rfl (H.cell (i:=0) rfl rfl) Tryz.underlying3 rfl<|wo (op_subI (b:=(1:Int)) rfl rfl (by omega)<|wo (op_nilCheck rfl<|wo (op_fieldAddr rfl Fa.F95_4<|wo (op_storeB (i:=0) H rfl rfl rfl rfl rfl Fa.I3 (fun w3 H3=>(wn<|WC.seq<|WC.draw 12 Fa.M H3 (mh rfl<|oh (fun w1 H1=>op_nilCheck rfl zr)<|oh (fun w1 H1=>op_fieldAddr rfl Fa.F95_0 zr)<|oh (fun w1 H1=>op_load rfl (H1.cell (i:=0) rfl rfl) Tryz.underlying47 rfl zr)<|mh rfl<|oh (fun w1 H1=>op_nilCheck rfl zr)<|oh (fun w1 H1=>op_fieldAddr rfl Fa.F95_1 zr)<|oh (fun w1 H1=>op_load rfl (H1.cell (i:=0) rfl rfl) Tryz.underlying22 rfl zr)<|mh rfl<|oh (fun w1 H1=>op_convNU32 (hs:=Tryz.underlying3) (hd:=Tryz.underlying22) rfl zr)<|mh rfl<|oh (fun w1 H1=>op_callF Fa.C111 rfl ((slfill_ok t _ (by omega)).mono (fun e w2 hq=>⟨_,hq.1,rfl,hq.2⟩)))  HW.nil) (by kernel_rfl) ?_)))))))))
  intro β5 w5 H5
  refine wo (op_callF Fa.C27 rfl ((xset_ok x k bv ev xv cv nv pg m n es B id p (pad64 t) _ _ (H5.part [1,2,3,4] rfl rfl) hid hev (by omega) (by omega) (pad64_len (by omega))).mono (fun e w6 hq=>?_)))
  obtain ⟨rfl,hq6⟩:=hq
  refine ⟨_,rfl,?_⟩
  have H6:=H5.splice [1,2,3,4] [Ent.bo x [(ptr k 0)],Ent.bo k [(vU32 pg),xv,cv,nv,bv],Ent.ar bv 1 m es,.row ev 9 1 n (List.map str (B.set p (pad64 t)))] [] rfl rfl hq6 (Fits.same (j:=0) rfl (Fits.same (j:=1) rfl (Fits.same (j:=2) rfl (Fits.solid True.intro Fits.nil))))
  refine wo (op_eqlN (b:=0) rfl rfl<|wa rfl<|wn<|WC.ret<|WQ.out (.tmp rfl .nil) ?_)
  rw [wrX_1 (dF hb1) (dT hb2),hb1]
  exact ⟨rfl,H6⟩
 refine WC.skip<|WQ.next<|WC.seq<|WC.draw 12 Fa.M H (mh rfl<|oh (fun w1 H1=>op_nilCheck rfl zr)<|oh (fun w1 H1=>op_fieldAddr rfl Fa.F95_0 zr)<|oh (fun w1 H1=>op_load rfl (H1.cell (i:=0) rfl rfl) Tryz.underlying47 rfl zr)<|mh rfl<|oh (fun w1 H1=>op_nilCheck rfl zr)<|oh (fun w1 H1=>op_fieldAddr rfl Fa.F95_1 zr)<|oh (fun w1 H1=>op_load rfl (H1.cell (i:=0) rfl rfl) Tryz.underlying22 rfl zr)<|mh rfl<|oh (fun w1 H1=>op_convNU32 (hs:=Tryz.underlying3) (hd:=Tryz.underlying22) rfl zr)<|mh rfl<|oh (fun w1 H1=>op_callF Fa.C111 rfl ((slfill_ok t _ (by omega)).mono (fun e w2 hq=>⟨_,hq.1,rfl,hq.2⟩)))  HW.nil) (by kernel_rfl) ?_
 intro β8 w8 H8
 refine wo (op_callF Fa.C27 rfl ((xset_ok x k bv ev xv cv nv pg m n es B id p (pad64 t) _ _ (H8.part [1,2,3,4] rfl rfl) hid hev (by omega) (by omega) (pad64_len (by omega))).mono (fun e w9 hq=>?_)))
 obtain ⟨rfl,hq9⟩:=hq
 refine ⟨_,rfl,?_⟩
 have H9:=H8.splice [1,2,3,4] [Ent.bo x [(ptr k 0)],Ent.bo k [(vU32 pg),xv,cv,nv,bv],Ent.ar bv 1 m es,.row ev 9 1 n (List.map str (B.set p (pad64 t)))] [] rfl rfl hq9 (Fits.same (j:=0) rfl (Fits.same (j:=1) rfl (Fits.same (j:=2) rfl (Fits.solid True.intro Fits.nil))))
 refine wo (op_eqlN (b:=0) rfl rfl<|wa rfl<|wn<|WC.ret<|WQ.out (.tmp rfl .nil) ?_)
 rw [wrX_2 (dF hb1) (dF hb2),hb1]
 exact ⟨rfl,H9⟩
theorem upd1_ok (s:Nat) (id:UInt32) (key:List UInt8) (each:Nat) (left:Int) (x:Nat) (k:Nat) (bv ev xv cv nv:Value) (pg:UInt32) (m n:Nat) (es:List Value) (B:List (List UInt8)) (c3 c10 at_:Nat)  (T:List Nat) (w:World) (H:Owl.Own T w w [.blk c3 [(ptr s 0)] 24,.blk c10 [(ptr s 0),(vN at_)] 97,.blk s [(ptr x 0),(vU32 id),(str key),(vN each),(vI left)] 95,Ent.bo x [(ptr k 0)],Ent.bo k [(vU32 pg),xv,cv,nv,bv],Ent.ar bv 1 m es,.row ev 9 1 n (List.map str B)]) (hid:id.toNat<m) (hev:es[id.toNat]?=some ev) (hp:at_<n) (hm:n<2^20) (hL:left<2^63) :
  Calls Tryz.prog 50 #[(ptr c3 0),(ptr c10 0)] w (fun e w'=>e=.returned (.bool (!decide (left=0)))∧Owl.Own T w w' [.blk c3 [(ptr s 0)] 24,.blk c10 [(ptr s 0),(vN at_)] 97,.blk s [(ptr x 0),(vU32 id),(str key),(vN each),(vI (wrX (Sst.mk B left) (at_,[])).left)] 95,Ent.bo x [(ptr k 0)],Ent.bo k [(vU32 pg),xv,cv,nv,bv],Ent.ar bv 1 m es,.row ev 9 1 n (List.map str (wrX (Sst.mk B left) (at_,[])).B)]):=by
 refine enter Tryz.func50 rfl rfl<|ws<|wa rfl<|wn<|ws<|wo (op_load rfl (H.cell (i:=0) rfl rfl) Tryz.underlying24 rfl<|wo (op_fieldAddr rfl Fa.F97_1<|wo (op_load rfl (H.cell (i:=1) rfl rfl) Tryz.underlying3 rfl<|wo (op_callF Fa.C51 rfl ((write44_ok s id key each left x k bv ev xv cv nv pg m n es B at_ ([]) _ _ (H.part [2,3,4,5,6] rfl rfl) hid hev hp hm hL (by decide)).mono (fun e w1 hq=>?_))))))
 obtain ⟨rfl,hq1⟩:=hq
 refine ⟨_,rfl,?_⟩
 have H1:=H.splice [2,3,4,5,6] [.blk s [(ptr x 0),(vU32 id),(str key),(vN each),(vI (wrX (Sst.mk B left) (at_,[])).left)] 95,Ent.bo x [(ptr k 0)],Ent.bo k [(vU32 pg),xv,cv,nv,bv],Ent.ar bv 1 m es,.row ev 9 1 n (List.map str (wrX (Sst.mk B left) (at_,[])).B)] [] rfl rfl hq1 (Fits.solid True.intro (Fits.same (j:=1) rfl (Fits.same (j:=2) rfl (Fits.same (j:=3) rfl (Fits.solid True.intro Fits.nil)))))
 exact wa rfl<|wn<|WC.ret<|WQ.out (.tmp rfl .nil) (⟨rfl,H1⟩)
theorem upd2_ok (s:Nat) (id:UInt32) (key:List UInt8) (each:Nat) (left:Int) (x:Nat) (k:Nat) (bv ev xv cv nv:Value) (pg:UInt32) (m n:Nat) (es:List Value) (B:List (List UInt8)) (c3 c10 at_:Nat) (ck cp i:Nat) (tx:List UInt8) (T:List Nat) (w:World) (H:Owl.Own T w w [.blk c3 [(ptr s 0)] 24,.blk c10 [(ptr s 0),(vN at_)] 97,.blk s [(ptr x 0),(vU32 id),(str key),(vN each),(vI left)] 95,Ent.bo x [(ptr k 0)],Ent.bo k [(vU32 pg),xv,cv,nv,bv],Ent.ar bv 1 m es,.row ev 9 1 n (List.map str B),Ent.bo ck [(vN i)],Ent.bo cp [(str tx)]]) (hid:id.toNat<m) (hev:es[id.toNat]?=some ev) (hp:2+at_ * each+i<n) (hm:n<2^20) (hL:left<2^63) (ht:tx.length≤64) :
  Calls Tryz.prog 52 #[(ptr c3 0),(ptr c10 0),(ptr ck 0),(ptr cp 0)] w (fun e w'=>e=.returned (.bool (!decide (left=0)))∧Owl.Own T w w' [.blk c3 [(ptr s 0)] 24,.blk c10 [(ptr s 0),(vN at_)] 97,.blk s [(ptr x 0),(vU32 id),(str key),(vN each),(vI (wrX (Sst.mk B left) (2+at_ * each+i,tx)).left)] 95,Ent.bo x [(ptr k 0)],Ent.bo k [(vU32 pg),xv,cv,nv,bv],Ent.ar bv 1 m es,.row ev 9 1 n (List.map str (wrX (Sst.mk B left) (2+at_ * each+i,tx)).B),Ent.bo ck [(vN i)],Ent.bo cp [(str tx)]]):=by
 refine enter Tryz.func52 rfl rfl<|ws<|wa rfl<|wn<|WC.seq<|WC.draw 12 Fa.M H (oh (fun w1 H1=>op_load rfl (H1.cell (i:=0) rfl rfl) Tryz.underlying24 rfl zr)<|oh (fun w1 H1=>op_fieldAddr rfl Fa.F97_1 zr)<|oh (fun w1 H1=>op_load rfl (H1.cell (i:=1) rfl rfl) Tryz.underlying3 rfl zr)<|oh (fun w1 H1=>op_load rfl (H1.cell (i:=0) rfl rfl) Tryz.underlying24 rfl zr)<|oh (fun w1 H1=>op_nilCheck rfl zr)<|oh (fun w1 H1=>op_fieldAddr rfl Fa.F95_3 zr)<|oh (fun w1 H1=>op_load rfl (H1.cell (i:=2) rfl rfl) Tryz.underlying3 rfl zr)<|oh (fun w1 H1=>op_mulN rfl rfl (by omega) zr)<|oh (fun w1 H1=>op_addN (a:=2) rfl rfl (by omega) zr)<|oh (fun w1 H1=>op_load rfl (H1.cellO (i:=7) rfl rfl) Tryz.underlying3 rfl zr)<|oh (fun w1 H1=>op_addN rfl rfl (by omega) zr)<|oh (fun w1 H1=>op_load rfl (H1.cellO (i:=8) rfl rfl) Tryz.underlying9 rfl zr)  HW.nil) (by kernel_rfl) ?_
 intro β1 w1 H1
 refine wo (op_callF Fa.C51 rfl ((write44_ok s id key each left x k bv ev xv cv nv pg m n es B ((2+(at_ * each))+i) tx _ _ (H1.part [2,3,4,5,6] rfl rfl) hid hev (by omega) hm hL ht).mono (fun e w2 hq=>?_)))
 obtain ⟨rfl,hq2⟩:=hq
 refine ⟨_,rfl,?_⟩
 have H2:=H1.splice [2,3,4,5,6] [.blk s [(ptr x 0),(vU32 id),(str key),(vN each),(vI (wrX (Sst.mk B left) (((2+(at_ * each))+i),tx)).left)] 95,Ent.bo x [(ptr k 0)],Ent.bo k [(vU32 pg),xv,cv,nv,bv],Ent.ar bv 1 m es,.row ev 9 1 n (List.map str (wrX (Sst.mk B left) (((2+(at_ * each))+i),tx)).B)] [] rfl rfl hq2 (Fits.solid True.intro (Fits.same (j:=1) rfl (Fits.same (j:=2) rfl (Fits.same (j:=3) rfl (Fits.solid True.intro Fits.nil)))))
 exact wa rfl<|wn<|WC.ret<|WQ.out (.tmp rfl .nil) (⟨rfl,H2⟩)
theorem upd3_ok (s:Nat) (id:UInt32) (key:List UInt8) (each:Nat) (left:Int) (x:Nat) (k:Nat) (bv ev xv cv nv:Value) (pg:UInt32) (m n:Nat) (es:List Value) (B:List (List UInt8)) (c3 c10 at_:Nat) (c13:Nat) (hd:List UInt8) (T:List Nat) (w:World) (H:Owl.Own T w w [.blk c3 [(ptr s 0)] 24,.blk c10 [(ptr s 0),(vN at_)] 97,.blk s [(ptr x 0),(vU32 id),(str key),(vN each),(vI left)] 95,Ent.bo x [(ptr k 0)],Ent.bo k [(vU32 pg),xv,cv,nv,bv],Ent.ar bv 1 m es,.row ev 9 1 n (List.map str B),.blk c13 [(str hd)] 9]) (hid:id.toNat<m) (hev:es[id.toNat]?=some ev) (hp:at_<n) (hm:n<2^20) (hL:left<2^63) (ht:hd.length≤64) :
  Calls Tryz.prog 53 #[(ptr c3 0),(ptr c10 0),(ptr c13 0)] w (fun e w'=>e=.returned (.bool (!decide (left=0)))∧Owl.Own T w w' [.blk c3 [(ptr s 0)] 24,.blk c10 [(ptr s 0),(vN at_)] 97,.blk s [(ptr x 0),(vU32 id),(str key),(vN each),(vI (wrX (Sst.mk B left) (at_,hd)).left)] 95,Ent.bo x [(ptr k 0)],Ent.bo k [(vU32 pg),xv,cv,nv,bv],Ent.ar bv 1 m es,.row ev 9 1 n (List.map str (wrX (Sst.mk B left) (at_,hd)).B),.blk c13 [(str hd)] 9]):=by
 refine enter Tryz.func53 rfl rfl<|ws<|wa rfl<|wn<|ws<|wo (op_load rfl (H.cell (i:=0) rfl rfl) Tryz.underlying24 rfl<|wo (op_fieldAddr rfl Fa.F97_1<|wo (op_load rfl (H.cell (i:=1) rfl rfl) Tryz.underlying3 rfl<|wo (op_load rfl (H.cell (i:=7) rfl rfl) Tryz.underlying9 rfl<|wo (op_callF Fa.C51 rfl ((write44_ok s id key each left x k bv ev xv cv nv pg m n es B at_ hd _ _ (H.part [2,3,4,5,6] rfl rfl) hid hev hp hm hL ht).mono (fun e w1 hq=>?_)))))))
 obtain ⟨rfl,hq1⟩:=hq
 refine ⟨_,rfl,?_⟩
 have H1:=H.splice [2,3,4,5,6] [.blk s [(ptr x 0),(vU32 id),(str key),(vN each),(vI (wrX (Sst.mk B left) (at_,hd)).left)] 95,Ent.bo x [(ptr k 0)],Ent.bo k [(vU32 pg),xv,cv,nv,bv],Ent.ar bv 1 m es,.row ev 9 1 n (List.map str (wrX (Sst.mk B left) (at_,hd)).B)] [] rfl rfl hq1 (Fits.solid True.intro (Fits.same (j:=1) rfl (Fits.same (j:=2) rfl (Fits.same (j:=3) rfl (Fits.solid True.intro Fits.nil)))))
 exact wa rfl<|wn<|WC.ret<|WQ.out (.tmp rfl .nil) (⟨rfl,H1⟩)
theorem all44_ok (v:Value) (cs:List Cl) (I:Nat→World→Prop) (J:World→Prop) (w:World) (hI: ∀k w',I k w'→Arr w' v 1 cs.length (cs.map clV)) (hcl: ∀c∈cs,callB Tryz.prog c.f=true) (hc: ∀k c w',cs[k]?=some c→I k w'→Calls Tryz.prog c.f c.cap.toArray w' (fun e w''=> ∃b,e=.returned (.bool b)∧(b=true→I (k+1) w'')∧(b=false→J w''))) (h0:I 0 w) (hln:cs.length<2^40) :
  Calls Tryz.prog 54 #[v] w (fun e w'=>(e=.returned (vN 0)∧I cs.length w')∨(e=.returned (vN 441)∧J w')):=by
 refine enter Tryz.func54 rfl rfl ?_
 have H0:=Own.start w []
 refine ws<|wa rfl<|wn<|WC.seq<|ws<|wm rfl<|wo (op_lenA Tryz.underlying101 rfl ((hI _ _ h0))<|wm rfl<|wn<|WC.block<|WC.loop (α:=Nat) (fun k=>[(5,v),(6,(vN cs.length)),(7,(vN k))]) (fun k w'=>I k w'∧k≤cs.length) (fun k=>cs.length-k) 0 ⟨h0,Nat.zero_le _⟩ ⟨rfl,rfl,rfl,trivial⟩ ?_)
 rintro k w1 ⟨hIk,hk1⟩
 show WC _ _ _ _ _ [(5,v),(6,(vN cs.length)),(7,(vN k))] _
 refine ws<|wo (op_lssN rfl rfl<|wn<|WC.seq (wE (k<cs.length) (fun hb2 hc2=>?_) (fun hb2 hc2=>?_)))
 ·
  have hget:cs[k]?=some (cs.getD k Cl.zero):=by rw [List.getD,List.getElem?_eq_getElem (by omega)]; rfl
  refine WC.skip<|WQ.next<|WC.seq<|WC.block<|ws<|wo (op_indexAddr1 Tryz.underlying101 Fa.I23 rfl ((hI _ _ hIk)) rfl (by omega)<|wo (op_load rfl (((hI _ _ hIk)).at (get_map clV Cl.zero (by omega))) Tryz.underlying23 rfl<|wa rfl<|wn<|ws<|wm rfl<|wo (op_call (f:=(cs.getD k Cl.zero).f) (fi:=[]) (ca:=(cs.getD k Cl.zero).cap) rfl (hcl _ (List.mem_of_getElem? hget)) rfl ((hc k _ _ hget hIk).mono (fun e w3 hq=>?_)))))
  obtain ⟨bq,rfl,hT,hF⟩:=hq
  refine ⟨_,rfl,?_⟩
  refine wo (op_not rfl<|wn (wC (!bq) (fun hb4=>?_) (fun hb4=>?_)))
  ·
   have hn4:=(Bool.not_eq_true' _).mp hb4
   exact ws<|wa rfl<|wn<|WC.ret<|WQ.inRet<|WQ.thenRet<|WQ.thenRet<|WQ.inRet<|WQ.thenRet<|WQ.out (.tmp rfl .nil) (.inr ⟨rfl,hF ((Bool.not_eq_true' _).mp hb4)⟩)
  have hn4:=(Bool.not_eq_false' _).mp hb4
  exact WC.skip<|WQ.inNormal<|WQ.next<|WC.region<|wo (op_addN (b:=1) rfl rfl (by omega)<|wm rfl<|WL.nil<|WQ.round (k+1) ⟨hT ((Bool.not_eq_false' _).mp hb4),by omega⟩ ⟨rfl,rfl,rfl,trivial⟩ (by omega))
 exact WC.exit<|WQ.thenExit<|WQ.thenExit<|WQ.inHere<|WQ.next<|ws<|wa rfl<|wn<|WC.ret<|WQ.out (.tmp rfl .nil) (.inl ⟨rfl,(show k=cs.length by omega) ▸ hIk⟩)
theorem all_upd (s:Nat) (id:UInt32) (key:List UInt8) (each:Nat) (left:Int) (x:Nat) (k:Nat) (bv ev xv cv nv:Value) (pg:UInt32) (m n:Nat) (es:List Value) (B:List (List UInt8)) (v:Value) (c3 c10 c13:Nat) (t:List UInt8) (vv:UInt32) (at_:Nat) (KP:List KPt) (T:List Nat) (w:World) (H:Owl.Own T w w [.blk s [(ptr x 0),(vU32 id),(str key),(vN each),(vI left)] 95,Ent.bo x [(ptr k 0)],Ent.bo k [(vU32 pg),xv,cv,nv,bv],Ent.ar bv 1 m es,.row ev 9 1 n (List.map str B),.blk c3 [(ptr s 0)] 24,.blk c10 [(ptr s 0),(vN at_)] 97,.blk c13 [(str (hdrS key vv t))] 9,.row v 23 1 (stepsL 50 52 53 c3 c10 c13 KP).length (List.map clV (stepsL 50 52 53 c3 c10 c13 KP)),Ent.bs 3 (fun p:KPt=>[vN p.1]) (fun p:KPt=>p.2.1) KP,Ent.bs 9 (fun p:KPt=>[str (pcT t p.1)]) (fun p:KPt=>p.2.2) KP]) (hid:id.toNat<m) (hev:es[id.toNat]?=some ev) (hn:B.length=n) (hc:2+each+each≤n) (h4:4≤n) (hm:n<2^20) (hL0:left<2^63)
    (hat:at_=0∨at_=1) (hcn:cntS t≤each) (hKP:KP.map Prod.fst=List.range (cntS t)) :
    Calls Tryz.prog 54 #[v] w (fun e w'=>e=.returned (vN (if (wrA (Sst.mk B left) (wrs each key vv t at_)).2=true then 0 else 441))∧Owl.Own T w w' [.blk s [(ptr x 0),(vU32 id),(str key),(vN each),(vI (wrA (Sst.mk B left) (wrs each key vv t at_)).1.left)] 95,Ent.bo x [(ptr k 0)],Ent.bo k [(vU32 pg),xv,cv,nv,bv],Ent.ar bv 1 m es,.row ev 9 1 n (List.map str (wrA (Sst.mk B left) (wrs each key vv t at_)).1.B),.blk c3 [(ptr s 0)] 24,.blk c10 [(ptr s 0),(vN at_)] 97,.blk c13 [(str (hdrS key vv t))] 9,.row v 23 1 (stepsL 50 52 53 c3 c10 c13 KP).length (List.map clV (stepsL 50 52 53 c3 c10 c13 KP)),Ent.bs 3 (fun p:KPt=>[vN p.1]) (fun p:KPt=>p.2.1) KP,Ent.bs 9 (fun p:KPt=>[str (pcT t p.1)]) (fun p:KPt=>p.2.2) KP]):=by
  have hae:at_ * each≤each:=by rcases hat with rfl | rfl<;>omega
  have hlen0:=steps_len (f1:=50) (f2:=52) (f3:=53) (c3:=c3) (c10:=c10) (c13:=c13) (each:=each) (key:=key) (v:=vv) (at_:=at_) hKP
  have key1:=all44_ok v (stepsL 50 52 53 c3 c10 c13 KP) (fun kk w'=> ∃st:Sst,(wrA (Sst.mk B left) (wrs each key vv t at_))=wrA st ((wrs each key vv t at_).drop kk)∧st.left<2^63∧st.B.length=n∧Owl.Own T w w' [.blk s [(ptr x 0),(vU32 id),(str key),(vN each),(vI st.left)] 95,Ent.bo x [(ptr k 0)],Ent.bo k [(vU32 pg),xv,cv,nv,bv],Ent.ar bv 1 m es,.row ev 9 1 n (List.map str st.B),.blk c3 [(ptr s 0)] 24,.blk c10 [(ptr s 0),(vN at_)] 97,.blk c13 [(str (hdrS key vv t))] 9,.row v 23 1 (stepsL 50 52 53 c3 c10 c13 KP).length (List.map clV (stepsL 50 52 53 c3 c10 c13 KP)),Ent.bs 3 (fun p:KPt=>[vN p.1]) (fun p:KPt=>p.2.1) KP,Ent.bs 9 (fun p:KPt=>[str (pcT t p.1)]) (fun p:KPt=>p.2.2) KP]) (fun w'=> ∃st:Sst,(wrA (Sst.mk B left) (wrs each key vv t at_))=(st,false)∧Owl.Own T w w' [.blk s [(ptr x 0),(vU32 id),(str key),(vN each),(vI st.left)] 95,Ent.bo x [(ptr k 0)],Ent.bo k [(vU32 pg),xv,cv,nv,bv],Ent.ar bv 1 m es,.row ev 9 1 n (List.map str st.B),.blk c3 [(ptr s 0)] 24,.blk c10 [(ptr s 0),(vN at_)] 97,.blk c13 [(str (hdrS key vv t))] 9,.row v 23 1 (stepsL 50 52 53 c3 c10 c13 KP).length (List.map clV (stepsL 50 52 53 c3 c10 c13 KP)),Ent.bs 3 (fun p:KPt=>[vN p.1]) (fun p:KPt=>p.2.1) KP,Ent.bs 9 (fun p:KPt=>[str (pcT t p.1)]) (fun p:KPt=>p.2.2) KP]) w
    (fun kk w' ⟨st,_,_,_,h⟩=>h.arrR (i:=8) rfl)
    (fun c hc => by rcases steps_mem hc with h | h | h<;>rw [h]
                    · exact Fa.C50
                    · exact Fa.C52
                    · exact Fa.C53) ?_ ⟨⟨B,left⟩,by rw [List.drop_zero],hL0,hn,H⟩ (by rw [hlen0,wrs_len]; omega)
  · refine key1.mono (fun e w' h=>?_)
    rcases h with ⟨rfl,st,h1,_,_,h2⟩ | ⟨rfl,st,h1,h2⟩
    · rw [hlen0] at h1
      rw [wrA_done h1]; exact ⟨rfl,h2⟩
    · rw [h1]; exact ⟨rfl,h2⟩
  intro kk c w1 hck ⟨st,h1,hL,hlen,hO⟩
  rcases steps_cases (each:=each) (key:=key) (v:=vv) (at_:=at_) hKP hck with ⟨rfl,rfl,hw⟩ | ⟨p,hp,rfl,hpi,rfl,hw⟩ | ⟨rfl,rfl,hw⟩
  · have h3:=upd1_ok s id key each st.left x k bv ev xv cv nv pg m n es st.B c3 c10 at_ _ _ (hO.part [5,6,0,1,2,3,4] rfl rfl) hid hev (by omega) hm hL
    refine h3.mono (fun e w2 hq=>?_)
    obtain ⟨rfl,hq⟩:=hq
    have h5:Owl.Own T w w2 [.blk s [(ptr x 0),(vU32 id),(str key),(vN each),(vI (wrX st (at_,[])).left)] 95,Ent.bo x [(ptr k 0)],Ent.bo k [(vU32 pg),xv,cv,nv,bv],Ent.ar bv 1 m es,.row ev 9 1 n (List.map str (wrX st (at_,[])).B),.blk c3 [(ptr s 0)] 24,.blk c10 [(ptr s 0),(vN at_)] 97,.blk c13 [(str (hdrS key vv t))] 9,.row v 23 1 (stepsL 50 52 53 c3 c10 c13 KP).length (List.map clV (stepsL 50 52 53 c3 c10 c13 KP)),Ent.bs 3 (fun p:KPt=>[vN p.1]) (fun p:KPt=>p.2.1) KP,Ent.bs 9 (fun p:KPt=>[str (pcT t p.1)]) (fun p:KPt=>p.2.2) KP]:=hO.splice [5,6,0,1,2,3,4] [.blk c3 [(ptr s 0)] 24,.blk c10 [(ptr s 0),(vN at_)] 97,.blk s [(ptr x 0),(vU32 id),(str key),(vN each),(vI (wrX st (at_,[])).left)] 95,Ent.bo x [(ptr k 0)],Ent.bo k [(vU32 pg),xv,cv,nv,bv],Ent.ar bv 1 m es,.row ev 9 1 n (List.map str (wrX st (at_,[])).B)] [] rfl rfl hq (Fits.solid True.intro (Fits.solid True.intro (Fits.solid True.intro (Fits.same (j:=3) rfl (Fits.same (j:=4) rfl (Fits.same (j:=5) rfl (Fits.solid True.intro Fits.nil)))))))
    refine ⟨_,rfl,fun hb=>⟨wrX st (at_,[]),?_,wrX_left _ hL,(wrX_len _ _).trans hlen,h5⟩,fun hb=>⟨st,?_,?_⟩⟩
    · have hne:st.left≠0:=dF ((Bool.not_eq_true' _).mp hb)
      rw [wrX_step hne]; exact wrA_step h1 hw hne
    · have hz:st.left=0:=dT ((Bool.not_eq_false' _).mp hb)
      exact wrA_stop h1 (by rw [wrs_len]; omega) hz
    · have hz:st.left=0:=dT ((Bool.not_eq_false' _).mp hb)
      rw [wrX_stop hz] at h5; exact h5
  · have E2:=((hO.part [5,6,0,1,2,3,4] rfl rfl).addBo ((hO.bsG (i:=9) rfl).cells hp) (hO.notOwn (I:=[5,6,0,1,2,3,4]) (g:=9) (bl:=fun p:KPt=>p.2.1) rfl rfl rfl hp)).addBo ((hO.bsG (i:=10) rfl).cells hp) (notOwn_bo (hO.notOwn (I:=[5,6,0,1,2,3,4]) (g:=10) (bl:=fun p:KPt=>p.2.2) rfl rfl rfl hp))
    have h3:=upd2_ok s id key each st.left x k bv ev xv cv nv pg m n es st.B c3 c10 at_ p.2.1 p.2.2 p.1 (pcT t p.1) _ _ E2 hid hev (by omega) hm hL (pcT_len _ _)
    refine h3.mono (fun e w2 hq=>?_)
    obtain ⟨rfl,hq⟩:=hq
    have h5:Owl.Own T w w2 [.blk s [(ptr x 0),(vU32 id),(str key),(vN each),(vI (wrX st (2+at_ * each+p.1,pcT t p.1)).left)] 95,Ent.bo x [(ptr k 0)],Ent.bo k [(vU32 pg),xv,cv,nv,bv],Ent.ar bv 1 m es,.row ev 9 1 n (List.map str (wrX st (2+at_ * each+p.1,pcT t p.1)).B),.blk c3 [(ptr s 0)] 24,.blk c10 [(ptr s 0),(vN at_)] 97,.blk c13 [(str (hdrS key vv t))] 9,.row v 23 1 (stepsL 50 52 53 c3 c10 c13 KP).length (List.map clV (stepsL 50 52 53 c3 c10 c13 KP)),Ent.bs 3 (fun p:KPt=>[vN p.1]) (fun p:KPt=>p.2.1) KP,Ent.bs 9 (fun p:KPt=>[str (pcT t p.1)]) (fun p:KPt=>p.2.2) KP]:=hO.splice [5,6,0,1,2,3,4] [.blk c3 [(ptr s 0)] 24,.blk c10 [(ptr s 0),(vN at_)] 97,.blk s [(ptr x 0),(vU32 id),(str key),(vN each),(vI (wrX st (2+at_ * each+p.1,pcT t p.1)).left)] 95,Ent.bo x [(ptr k 0)],Ent.bo k [(vU32 pg),xv,cv,nv,bv],Ent.ar bv 1 m es,.row ev 9 1 n (List.map str (wrX st (2+at_ * each+p.1,pcT t p.1)).B)] [] rfl rfl (hq.take 7) (Fits.solid True.intro (Fits.solid True.intro (Fits.solid True.intro (Fits.same (j:=3) rfl (Fits.same (j:=4) rfl (Fits.same (j:=5) rfl (Fits.solid True.intro Fits.nil)))))))
    refine ⟨_,rfl,fun hb=>⟨wrX st (2+at_ * each+p.1,pcT t p.1),?_,wrX_left _ hL,(wrX_len _ _).trans hlen,h5⟩,fun hb=>⟨st,?_,?_⟩⟩
    · have hne:st.left≠0:=dF ((Bool.not_eq_true' _).mp hb)
      rw [wrX_step hne]; exact wrA_step h1 hw hne
    · have hz:st.left=0:=dT ((Bool.not_eq_false' _).mp hb)
      exact wrA_stop h1 (by rw [wrs_len]; omega) hz
    · have hz:st.left=0:=dT ((Bool.not_eq_false' _).mp hb)
      rw [wrX_stop hz] at h5; exact h5
  · have h3:=upd3_ok s id key each st.left x k bv ev xv cv nv pg m n es st.B c3 c10 at_ c13 (hdrS key vv t) _ _ (hO.part [5,6,0,1,2,3,4,7] rfl rfl) hid hev (by omega) hm hL (by rw [hdrS_len]; exact Nat.le_refl _)
    refine h3.mono (fun e w2 hq=>?_)
    obtain ⟨rfl,hq⟩:=hq
    have h5:Owl.Own T w w2 [.blk s [(ptr x 0),(vU32 id),(str key),(vN each),(vI (wrX st (at_,hdrS key vv t)).left)] 95,Ent.bo x [(ptr k 0)],Ent.bo k [(vU32 pg),xv,cv,nv,bv],Ent.ar bv 1 m es,.row ev 9 1 n (List.map str (wrX st (at_,hdrS key vv t)).B),.blk c3 [(ptr s 0)] 24,.blk c10 [(ptr s 0),(vN at_)] 97,.blk c13 [(str (hdrS key vv t))] 9,.row v 23 1 (stepsL 50 52 53 c3 c10 c13 KP).length (List.map clV (stepsL 50 52 53 c3 c10 c13 KP)),Ent.bs 3 (fun p:KPt=>[vN p.1]) (fun p:KPt=>p.2.1) KP,Ent.bs 9 (fun p:KPt=>[str (pcT t p.1)]) (fun p:KPt=>p.2.2) KP]:=hO.splice [5,6,0,1,2,3,4,7] [.blk c3 [(ptr s 0)] 24,.blk c10 [(ptr s 0),(vN at_)] 97,.blk s [(ptr x 0),(vU32 id),(str key),(vN each),(vI (wrX st (at_,hdrS key vv t)).left)] 95,Ent.bo x [(ptr k 0)],Ent.bo k [(vU32 pg),xv,cv,nv,bv],Ent.ar bv 1 m es,.row ev 9 1 n (List.map str (wrX st (at_,hdrS key vv t)).B),.blk c13 [(str (hdrS key vv t))] 9] [] rfl rfl hq (Fits.solid True.intro (Fits.solid True.intro (Fits.solid True.intro (Fits.same (j:=3) rfl (Fits.same (j:=4) rfl (Fits.same (j:=5) rfl (Fits.solid True.intro (Fits.solid True.intro Fits.nil))))))))
    refine ⟨_,rfl,fun hb=>⟨wrX st (at_,hdrS key vv t),?_,wrX_left _ hL,(wrX_len _ _).trans hlen,h5⟩,fun hb=>⟨st,?_,?_⟩⟩
    · have hne:st.left≠0:=dF ((Bool.not_eq_true' _).mp hb)
      rw [wrX_step hne]; exact wrA_step h1 hw hne
    · have hz:st.left=0:=dT ((Bool.not_eq_false' _).mp hb)
      exact wrA_stop h1 (by rw [wrs_len]; omega) hz
    · have hz:st.left=0:=dT ((Bool.not_eq_false' _).mp hb)
      rw [wrX_stop hz] at h5; exact h5
end Go.Proofs.YtbjhccnffacbcaaGreat
